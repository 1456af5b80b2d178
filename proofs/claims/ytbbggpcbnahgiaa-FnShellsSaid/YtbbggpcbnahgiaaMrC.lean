/- Regions that touch a map: each as a whole. Only lemmas. Printed by gen_mapr.py. -/
import Derived.Test.YtbbggpcbnahgiaaMrB
namespace Go.Proofs.Ytbbggpcbnahgiaa.Ab
set_option linter.unusedVariables false
set_option linter.unusedSimpArgs false
open Go
theorem take1 {P : Program} {md : Region.Mode} {ops : Array Oper} {Q : Exit → Act → World → Prop} {i d : Nat} {oi : Oper} {v : Value} {fuel : Nat} {listed : Array Bool} {a : Act} {w : World} (hi : ops[i]? = some oi) (hd : oi.dst = some d) (hg : oi.guard = none)
    (hs : Region.noSelect ops = true) (hf : Region.free md ops listed i = true) (hr : (Region.ready md ops listed).contains i = true)
    (hQ : ∀ c a w, ¬ Q (.panic c) a w) (hy : ∀ w, (execOp a.eval oi).run P w = .ok (.value v) w)
    (h : wpAny P md ops Q fuel (listed.setIfInBounds i true) (a.put (some d) v) w) : wpAny P md ops Q (fuel + 1) listed a w := by
  refine wpAny_take hi hs hf hr (fun c a w h => absurd h (hQ c _ w)) (.inl ⟨by unfold Region.wanted; rw [hg], hy⟩) ?_
  rw [hd]
  exact h
theorem val1 {P : Program} {ops : Array Oper} {Q : Exit → Act → World → Prop} {i d : Nat} {o : Oper} {a : Act} {w w' : World} {v : Value} {K : Act → World → Prop} (hi : ops[i]? = some o) (hd : o.dst = some d) (hw : o.guard = none) (hr : (execOp a.eval o).run P w = .ok (.value v) w') (h : K (a.put (some d) v) w') : wpOp P ops Q i K a w :=
  wpOp_val hi hw hr (by rw [hd]; exact h)
theorem list1 {P : Program} {ops : Array Oper} {Q : Exit → Act → World → Prop} {o : Oper} {rest : List Oper} {d : Nat} {a : Act} {w w' : World} {v : Value} (hd : o.dst = some d) (hw : o.guard = none) (hr : (execOp a.eval o).run P w = .ok (.value v) w') (h : wpList P ops Q rest (a.put (some d) v) w') : wpList P ops Q (o :: rest) a w :=
  wpList_val hw hr (by rw [hd]; exact h)
def opD (o : Oper) : Op × Option Tmp × Option (Nat × Bool) := (o.op, o.dst, o.guard)
theorem opD_of {ops : Array Oper} {i : Nat} {op : Op} {d : Option Tmp} (h : (ops[i]?).map opD = some (op, d, none)) : ∃ o, ops[i]? = some o ∧ o.op = op ∧ o.dst = d ∧ o.guard = none := by
  rw [Option.map_eq_some_iff] at h
  obtain ⟨o, h1, h2⟩ := h
  simp only [opD, Prod.mk.injEq] at h2
  exact ⟨o, h1, h2.1, h2.2.1, h2.2.2⟩
theorem take2 {P : Program} {md : Region.Mode} {ops : Array Oper} {Q : Exit → Act → World → Prop} {i d : Nat} {op : Op} {v : Value} {fuel : Nat} {listed : Array Bool} {a : Act} {w : World} (hi : (ops[i]?).map opD = some (op, some d, none))
    (hs : Region.noSelect ops = true) (hf : Region.free md ops listed i = true) (hr : (Region.ready md ops listed).contains i = true)
    (hQ : ∀ c a w, ¬ Q (.panic c) a w) (hy : ∀ (o : Oper), o.op = op → ∀ w, (execOp a.eval o).run P w = .ok (.value v) w)
    (h : wpAny P md ops Q fuel (listed.setIfInBounds i true) (a.put (some d) v) w) : wpAny P md ops Q (fuel + 1) listed a w := by
  obtain ⟨o, h1, h2, h3, h4⟩ := opD_of hi
  exact take1 h1 h3 h4 hs hf hr hQ (hy o h2) h
theorem val2 {P : Program} {ops : Array Oper} {Q : Exit → Act → World → Prop} {i d : Nat} {op : Op} {a : Act} {w w' : World} {v : Value} {K : Act → World → Prop} (hi : (ops[i]?).map opD = some (op, some d, none)) (hr : ∀ (o : Oper), o.op = op → (execOp a.eval o).run P w = .ok (.value v) w') (h : K (a.put (some d) v) w') : wpOp P ops Q i K a w := by
  obtain ⟨o, h1, h2, h3, h4⟩ := opD_of hi
  exact val1 h1 h3 h4 (hr o h2) h
theorem skip2 {P : Program} {ops : Array Oper} {Q : Exit → Act → World → Prop} {i : Nat} {op : Op} {a : Act} {w w' : World} {K : Act → World → Prop} (hi : (ops[i]?).map opD = some (op, none, none)) (hr : ∀ (o : Oper), o.op = op → (execOp a.eval o).run P w = .ok .skip w') (h : K a w') : wpOp P ops Q i K a w := by
  obtain ⟨o, h1, h2, h3, h4⟩ := opD_of hi
  exact wpOp_skip h1 h4 h3 (hr o h2) h
theorem list2 {P : Program} {ops : Array Oper} {Q : Exit → Act → World → Prop} {l : List Oper} {d : Nat} {op : Op} {ds : List (Op × Option Tmp × Option (Nat × Bool))} {a : Act} {w w' : World} {v : Value} (hl : l.map opD = (op, some d, none) :: ds) (hr : ∀ (o : Oper), o.op = op → (execOp a.eval o).run P w = .ok (.value v) w')
    (h : ∀ rest, rest.map opD = ds → wpList P ops Q rest (a.put (some d) v) w') : wpList P ops Q l a w := by
  cases l with
  | nil => cases hl
  | cons o rest =>
    simp only [List.map_cons, List.cons.injEq] at hl
    obtain ⟨h1, h2⟩ := hl
    simp only [opD, Prod.mk.injEq] at h1
    exact list1 h1.2.1 h1.2.2 (hr o h1.1) (h rest h2)
def mpAt (st : St) (i : Nat) : Option ML := match st.h[i]? with | some (.at false (.mp L)) => some L | _ => none
theorem mpAt_spec {st : St} {i : Nat} {L : ML} (h : mpAt st i = some L) : st.h[i]? = some (.at false (.mp L)) := by
  unfold mpAt at h
  split at h
  · rename_i e
    cases h
    exact e
  · cases h
def anyLook (m d s t : Nat) (ds : List Nat) (st : St) : Option St :=
  match decide (113 < st.t.length), nth st.t m, nth st.t s, nth st.t t with
  | true, .mp i, .int .i64 x, .int .i64 y => match mpAt st i with
    | some L => some ⟨anyA ds (st.t.set d (.int .i64 (lookL L (x, y)))), st.h⟩
    | none => none
  | _, _, _, _ => none
def raise (m s t : Nat) (f : St → Option (Int → Int)) (ds : List Nat) (st : St) : Option St :=
  match decide (113 < st.t.length), nth st.t m, nth st.t s, nth st.t t with
  | true, .mp i, .int .i64 x, .int .i64 y => match mpAt st i, f st with
    | some L, some g => some ⟨anyA ds st.t, st.h.set i (.at false (.mp (putL L (x, y) (g (lookL L (x, y))))))⟩
    | _, _ => none
  | _, _, _, _ => none
def byOne (_ : St) : Option (Int → Int) := some fun v => IntKind.i64.wrap (v + 1)
def bySlot (u : Nat) (st : St) : Option (Int → Int) := match nth st.t u with | .int .i64 z => some fun v => IntKind.i64.wrap (v - z) | _ => none
def g25 : St → Option St := anyLook 5 15 13 14 [77, 78, 79, 80, 81]
def g16 : St → Option St := raise 5 9 8 byOne [55, 56, 57, 58, 59, 60, 61, 62]
def g33 : St → Option St := raise 5 16 17 (bySlot 15) [98, 99, 100, 101, 102, 103, 104, 105, 106]
def g1 (st : St) : Option St := match decide (113 < st.t.length) with | true => some ⟨(st.t.set 18 (.mp st.h.length)).set 5 (.mp st.h.length), st.h ++ [.at false (.mp [])]⟩ | false => none

theorem get_same {a : Act} {d : Nat} {v : Value} (h : d < a.tmps.size) : (a.put (some d) v).tmps.getD d undef = v := by rw [put_getD, if_pos ⟨rfl, h⟩]
theorem get_ne {a : Act} {d j : Nat} {v : Value} (h : d ≠ j) : (a.put (some d) v).tmps.getD j undef = a.tmps.getD j undef := by rw [put_getD, if_neg (fun e => h e.1)]
set_option maxHeartbeats 2000000 in
theorem snd25 : GSound Try.prog 25 (opsT 25) false g25 := by
  intro μ0 h0 w0 st st' hg Q hQ μ a w hi
  unfold g25 anyLook at hg
  split at hg
  case h_2 => cases hg
  rename_i i x y hl e5 e13 e14
  split at hg
  case h_2 => cases hg
  rename_i L hL
  cases hg
  have hb := mpAt_spec hL
  have hl := of_decide_eq_true hl
  have hs : Slots μ st.t a := hi.inv.slots
  have f5 := hs.2 5
  have f13 := hs.2 13
  have f14 := hs.2 14
  rw [e5] at f5
  rw [e13] at f13
  rw [e14] at f14
  obtain ⟨m, hm, f5⟩ := repMp f5
  have f13 : a.tmps.getD 13 undef = .int .i64 x := f13
  have f14 : a.tmps.getD 14 undef = .int .i64 y := f14
  have q : ∀ d, d ≤ 113 → d < a.tmps.size := fun d hd => by rw [hs.1]; omega
  have hM := hi.maps i m L hm hb
  refine wp_region_list ?_
  refine list2 (op := .move (.tmp 5)) (d := 77) (ds := [(.move (.tmp 13), some 78, none), (.move (.tmp 14), some 79, none), (.build 72 #[(0, .tmp 78), (1, .tmp 79)], some 80, none), (.lookup 71 (.tmp 77) (.tmp 80) false, some 81, none), (.assign (.tmp 81), some 15, none)]) (by kernel_rfl) (fun o ho => run_move ho f5 w) fun l1 e1 => ?_
  refine list2 e1 (fun o ho => run_move ho ((get_ne (by decide)).trans f13) w) fun l2 e2 => ?_
  refine list2 e2 (fun o ho => run_move ho ((get_ne (by decide)).trans ((get_ne (by decide)).trans f14)) w) fun l3 e3 => ?_
  refine list2 e3 (fun o ho => run_bld ho ((get_ne (by decide)).trans (get_same (by (try simp only [put_size]); exact q 78 (by decide)))) (get_same (by (try simp only [put_size]); exact q 79 (by decide))) w) fun l4 e4 => ?_
  refine list2 e4 (fun o ho => run_lk ho ((get_ne (by decide)).trans ((get_ne (by decide)).trans ((get_ne (by decide)).trans (get_same (by (try simp only [put_size]); exact q 77 (by decide)))))) (get_same (by (try simp only [put_size]); exact q 80 (by decide))) hM.obj) fun l5 e5 => ?_
  refine list2 e5 (fun o ho => run_assign ho (get_same (by (try simp only [put_size]); exact q 81 (by decide))) w) fun l6 e6 => ?_
  obtain rfl : l6 = [] := by simpa using e6
  refine hQ μ _ w ⟨⟨?_, ?_, hi.inv.ev⟩, hi.maps⟩
  rotate_left
  · simp only [put_defers]; exact hi.inv.defers
  have hs2 := ((((((hs.put (d := some 77) (v := V.any) (cv := .map (some m.blk)) trivial).put (d := some 78) (v := V.any) (cv := .int .i64 x) trivial).put (d := some 79) (v := V.any) (cv := .int .i64 y) trivial).put (d := some 80) (v := V.any) (cv := keyV (x, y)) trivial).put (d := some 81) (v := V.any) (cv := .int .i64 (lookL L (x, y))) trivial).put (d := some 15) (v := .int .i64 (lookL L (x, y))) (cv := .int .i64 (lookL L (x, y))) rfl)
  refine hs2.weak (by rw [anyA_len]; simp [putV]) fun j => ?_
  rcases anyA_nth [77, 78, 79, 80, 81] (st.t.set 15 (.int .i64 (lookL L (x, y)))) j with k | ⟨k1, k2⟩
  · exact .inl k
  · right
    rw [k2]
    simp only [putV, nth_set, List.length_set]
    try rw [List.length_set] at k1
    by_cases hj : j < st.t.length
    · have : j ∉ [77, 78, 79, 80, 81] := fun h => absurd (k1 h) (by omega)
      simp only [List.mem_cons, List.not_mem_nil, or_false, not_or] at this
      simp [this]
    · have c : ∀ d, d ≤ 113 → j ≠ d := fun d hd => by omega
      simp [c]
theorem InvM.make {μ0 μ : Mu} {h0 : H} {w0 w : World} {st : St} {a a' : Act} {t' : List V} (hi : InvM μ0 h0 w0 μ st a w)
    (hs : Slots (μ.app [⟨w.heap.size, 0, false, 0, 0, 0⟩]) t' a') (hd : a'.defers = []) : InvM μ0 h0 w0 (μ.app [⟨w.heap.size, 0, false, 0, 0, 0⟩]) ⟨t', st.h ++ [.at false (.mp [])]⟩ a' (w.alloc (.map #[] 0)) := by
  have hr := hi.inv.ev.rel
  have hml : μ.l.length = st.h.length := by rw [hr.len, hide_len]
  have hfr : Fr (fun _ => False) w (w.alloc (.map #[] 0)) := .alloc _ w _
  have hhd : hide (st.h ++ [.at false (.mp [])]) = hide st.h ++ [.gone] := by unfold hide; rw [List.map_append]; rfl
  -- blocks that are there were there
  have old : ∀ (j : Nat) (rw : Bool) (c : C), (hide st.h ++ [.gone])[j]? = some (.at rw c) → (hide st.h)[j]? = some (.at rw c) := by
    intro j rw c e
    by_cases hj : j < (hide st.h).length
    · rwa [List.getElem?_append_left hj] at e
    · rw [List.getElem?_append_right (by omega)] at e
      exfalso
      cases hk : j - (hide st.h).length with
      | zero => rw [hk] at e; cases e
      | succ k => rw [hk] at e; simp at e
  have oldm : ∀ (j : Nat) (n : M), j < μ.l.length → (μ.app [⟨w.heap.size, 0, false, 0, 0, 0⟩]).l[j]? = some n → μ.l[j]? = some n := fun j n hj e => by
    have e : (μ.l ++ [_])[j]? = some n := e
    rwa [List.getElem?_append_left hj] at e
  have lt_of : ∀ (j : Nat) (rw : Bool) (c : C), (hide st.h)[j]? = some (.at rw c) → j < μ.l.length := fun j rw c e => by rw [hml, ← hide_len st.h]; exact getElem?_lt e
  have r1 : Rel μ (hide st.h) (w.alloc (.map #[] 0)) := hr.fr hfr (fun _ _ _ _ _ _ h => h) (fun _ _ _ h => h)
  have r2 : Rel (μ.app [⟨w.heap.size, 0, false, 0, 0, 0⟩]) (hide st.h ++ [.gone]) (w.alloc (.map #[] 0)) := by
    refine ⟨by simp [r1.len], fun i m rw c hm hb j x hx => ?_, fun i m c hm hb => ?_, fun i m rw c hm hb hl => ?_, fun i j m n c rw d hij hm hn hb hd hl => ?_, fun k cur hk => ⟨(r1.fz k cur hk).1, fun i m c hm hb => ?_⟩⟩
    · have hb' := old i rw c hb
      obtain ⟨cv, k1, k2⟩ := r1.cell i m rw c (oldm i m (lt_of i rw c hb') hm) hb' j x hx
      exact ⟨cv, k1, k2.pre (.app μ _)⟩
    · have hb' := old i true c hb
      exact r1.own i m c (oldm i m (lt_of i true c hb') hm) hb'
    · have hb' := old i rw c hb
      exact r1.lt i m rw c (oldm i m (lt_of i rw c hb') hm) hb' hl
    · have hb' := old i true c hb
      have hd' := old j rw d hd
      exact r1.sep i j m n c rw d hij (oldm i m (lt_of i true c hb') hm) (oldm j n (lt_of j rw d hd') hn) hb' hd' hl
    · have hb' := old i true c hb
      exact (r1.fz k cur hk).2 i m c (oldm i m (lt_of i true c hb') hm) hb'
  have e := hi.inv.ev
  have ev2 : Ev μ0 h0 w0 (μ.app [⟨w.heap.size, 0, false, 0, 0, 0⟩]) (hide st.h ++ [.gone]) (w.alloc (.map #[] 0)) := by
    refine ⟨r2, e.pre.trans (.app μ _), e.fr.trans hfr (fun i h => h.elim), fun j rw c hj hb => e.old j rw c hj (old j rw c hb), fun i m rw c hi' hm hb => ?_, e.zn⟩
    have hb' := old i rw c hb
    exact e.new i m rw c hi' (oldm i m (lt_of i rw c hb') hm) hb'
  have hnew : (w.alloc (.map #[] 0)).heap[w.heap.size]? = some (mapObj []) := by show (w.heap.push _)[w.heap.size]? = _; simp [mapObj, mkE]
  have blks : ∀ (j : Nat) (n : M) (rw : Bool) (c : C), μ.l[j]? = some n → st.h[j]? = some (.at rw c) → (rw = true ∨ ∃ L, rw = false ∧ c = .mp L) → n.blk < w.heap.size := by
    intro j n rw c hn hc hk
    rcases hk with rfl | ⟨L, rfl, rfl⟩
    · obtain ⟨_, _, _, cur, k4, _⟩ := hr.own j n c hn (at_hide hc)
      exact heap_lt k4
    · exact heap_lt (hi.maps j n L hn hc).obj
  have parts : ∀ (j : Nat) (n : M) (rw : Bool) (c : C), (μ.app [⟨w.heap.size, 0, false, 0, 0, 0⟩]).l[j]? = some n → (st.h ++ [.at false (.mp [])])[j]? = some (.at rw c) → (j < μ.l.length ∧ μ.l[j]? = some n ∧ st.h[j]? = some (.at rw c)) ∨ (j = μ.l.length ∧ n = ⟨w.heap.size, 0, false, 0, 0, 0⟩ ∧ rw = false ∧ c = .mp []) := by
    intro j n rw c hn hc
    have hn : (μ.l ++ [_])[j]? = some n := hn
    by_cases hj : j < μ.l.length
    · rw [List.getElem?_append_left hj] at hn
      rw [List.getElem?_append_left (by omega)] at hc
      exact .inl ⟨hj, hn, hc⟩
    · have hlt := getElem?_lt hn
      simp at hlt
      have hj' : j = μ.l.length := by omega
      subst hj'
      simp at hn
      rw [hml] at hc
      simp at hc
      exact .inr ⟨rfl, hn.symm, hc.1, hc.2.symm⟩
  refine ⟨⟨hs, hd, by show Ev μ0 h0 w0 _ (hide (st.h ++ [.at false (.mp [])])) _; rw [hhd]; exact ev2⟩, fun i m L hm hb => ?_⟩
  rcases parts i m false _ hm hb with ⟨hil, k1, k2⟩ | ⟨hil, k1, _, k2⟩
  · have hM := hi.maps i m L k1 k2
    refine ⟨(hfr.block m.blk (heap_lt hM.obj) id).trans hM.obj, hM.new, fun j n c hn hc => ?_, hM.z, fun j n L' hj hn hc => ?_⟩
    · rcases parts j n true c hn hc with ⟨_, q1, q2⟩ | ⟨_, _, q, _⟩
      · exact hM.sep j n c q1 q2
      · cases q
    · rcases parts j n false _ hn hc with ⟨_, q1, q2⟩ | ⟨_, q1, _, _⟩
      · exact hM.one j n L' hj q1 q2
      · subst q1
        have := heap_lt hM.obj
        show w.heap.size ≠ m.blk
        omega
  · subst k1
    cases k2
    refine ⟨hnew, e.fr.size, fun j n c hn hc => ?_, ?_, fun j n L' hj hn hc => ?_⟩
    · rcases parts j n true c hn hc with ⟨_, q1, q2⟩ | ⟨_, _, q, _⟩
      · have := blks j n true c q1 q2 (.inl rfl)
        show n.blk ≠ w.heap.size
        omega
      · cases q
    · show μ.z w.heap.size = none
      cases hz : μ.z w.heap.size with
      | none => rfl
      | some cur =>
        obtain ⟨⟨el, k⟩, _⟩ := hr.fz _ cur hz
        have := heap_lt k
        omega
    · rcases parts j n false _ hn hc with ⟨_, q1, q2⟩ | ⟨q, _, _, _⟩
      · have := blks j n false _ q1 q2 (.inr ⟨L', rfl, rfl⟩)
        show n.blk ≠ w.heap.size
        omega
      · exact absurd (q.trans hil.symm) hj
theorem snd1 : GSound Try.prog 1 (opsT 1) false g1 := by
  intro μ0 h0 w0 st st' hg Q hQ μ a w hi
  unfold g1 at hg
  split at hg
  case h_2 => cases hg
  rename_i hl
  cases hg
  have hl := of_decide_eq_true hl
  have hs : Slots μ st.t a := hi.inv.slots
  have q : ∀ d, d ≤ 113 → d < a.tmps.size := fun d hd => by rw [hs.1]; omega
  have hml : μ.l.length = st.h.length := by rw [hi.inv.ev.rel.len, hide_len]
  refine wp_region_list ?_
  refine list2 (op := .makeMap 71 none) (d := 18) (ds := [(.assign (.tmp 18), some 5, none)]) (by kernel_rfl) (fun o ho => run_mk ho) fun l1 e1 => ?_
  refine list2 e1 (fun o ho => run_assign ho (get_same (by (try simp only [put_size]); exact q 18 (by decide))) _) fun l2 e2 => ?_
  obtain rfl : l2 = [] := by simpa using e2
  have hmp : RepV (μ.app [⟨w.heap.size, 0, false, 0, 0, 0⟩]) (.mp st.h.length) (.map (some w.heap.size)) := ⟨_, new_at hml, rfl⟩
  refine hQ _ _ _ (hi.make ?_ (by simp only [put_defers]; exact hi.inv.defers))
  exact ((hs.pre (.app μ _)).put (d := some 18) hmp).put (d := some 5) hmp
set_option maxHeartbeats 2000000 in
theorem snd16 : GSound Try.prog 16 (opsT 16) true g16 := by
  intro μ0 h0 w0 st st' hg Q hQ μ a w hi
  unfold g16 raise at hg
  split at hg
  case h_2 => cases hg
  rename_i i x y hl e5 ea eb
  split at hg
  case h_2 => cases hg
  rename_i L g hL hf
  cases hg
  unfold byOne at hf
  cases hf
  
  
  
  have hb := mpAt_spec hL
  have hl := of_decide_eq_true hl
  have hs : Slots μ st.t a := hi.inv.slots
  have f5 := hs.2 5
  have fa := hs.2 9
  have fb := hs.2 8
  rw [e5] at f5
  rw [ea] at fa
  rw [eb] at fb
  obtain ⟨m, hm, f5⟩ := repMp f5
  have fa : a.tmps.getD 9 undef = .int .i64 x := fa
  have fb : a.tmps.getD 8 undef = .int .i64 y := fb
  
  
  
  have q : ∀ d, d ≤ 113 → d < a.tmps.size := fun d hd => by rw [hs.1]; omega
  refine wp_mono (Q := fun e a' w' => e = .normal ∧ Q .normal a' w') ?_ (fun e a' w' ⟨h1, h2⟩ => by subst h1; exact h2)
  refine wp_region_any mixed ?_
  have hi1 := hi.drewN 1
  have hobj : (w.drewN 1).heap[m.blk]? = some (mapObj L) := (hi1.maps i m L hm hb).obj
  have hblt : m.blk < (w.drewN 1).heap.size := heap_lt hobj
  have hobj2 : (setB (w.drewN 1) m.blk (mapObj (putL L (x, y) (lookL L (x, y))))).heap[m.blk]? = some (mapObj (putL L (x, y) (lookL L (x, y)))) := by
    show ((w.drewN 1).heap.setIfInBounds m.blk _)[m.blk]? = _
    rw [Array.getElem?_setIfInBounds_self_of_lt hblt]
  have hQ' : ∀ (c : _) (a' : Act) (w' : World), ¬ ((Exit.panic c : Exit) = .normal ∧ Q .normal a' w') := fun c a' w' h => by cases h.1
  have hend : ∀ a' : Act, Slots μ (anyA [55, 56, 57, 58, 59, 60, 61, 62] st.t) a' → a'.defers = [] → Q .normal a' (setB (setB (w.drewN 1) m.blk (mapObj (putL L (x, y) (lookL L (x, y))))) m.blk (mapObj (putL (putL L (x, y) (lookL L (x, y))) (x, y) (IntKind.i64.wrap (lookL L (x, y) + 1))))) := fun a' hs' hd' => by
    rw [put_put]
    have e : ∀ o o', setB (setB (w.drewN 1) m.blk o) m.blk o' = setB (w.drewN 1) m.blk o' := fun o o' => by unfold setB; simp [Array.setIfInBounds_setIfInBounds]
    rw [e]
    exact hQ μ a' _ (hi1.wrote hm hb hs' hd')
  refine take2 (i := 0) (op := .move (.tmp 5)) (d := 55) (by kernel_rfl) (by kernel_rfl) (by kernel_rfl) (by kernel_rfl) hQ' (fun o ho w => run_move ho f5 w) ?_
  refine take2 (i := 1) (op := .move (.tmp 9)) (d := 56) (by kernel_rfl) (by kernel_rfl) (by kernel_rfl) (by kernel_rfl) hQ' (fun o ho w => run_move ho ((get_ne (by decide)).trans fa) w) ?_
  refine take2 (i := 2) (op := .move (.tmp 8)) (d := 57) (by kernel_rfl) (by kernel_rfl) (by kernel_rfl) (by kernel_rfl) hQ' (fun o ho w => run_move ho ((get_ne (by decide)).trans ((get_ne (by decide)).trans fb)) w) ?_
  refine take2 (i := 3) (op := .build 72 #[(0, .tmp 56), (1, .tmp 57)]) (d := 58) (by kernel_rfl) (by kernel_rfl) (by kernel_rfl) (by kernel_rfl) hQ' (fun o ho w => run_bld ho ((get_ne (by decide)).trans (get_same (by (try simp only [put_size]); exact q 56 (by decide)))) (get_same (by (try simp only [put_size]); exact q 57 (by decide))) w) ?_
  refine wpAny_all (rs := [4, 6]) (by kernel_rfl) (by decide) fun j hj => ?_
  have hj : j = 4 ∨ j = 6 := by simpa using hj
  rcases hj with rfl | rfl
  · refine val2 (op := .lookup 71 (.tmp 55) (.tmp 58) false) (d := 59) (by kernel_rfl) (fun o ho => run_lk ho ((get_ne (by decide)).trans ((get_ne (by decide)).trans ((get_ne (by decide)).trans (get_same (by (try simp only [put_size]); exact q 55 (by decide)))))) (get_same (by (try simp only [put_size]); exact q 58 (by decide))) hobj) ?_
    refine take2 (i := 5) (op := .binOp .add 2 (.tmp 59) (.const (.int .i64 1)) 2) (d := 60) (by kernel_rfl) (by kernel_rfl) (by kernel_rfl) (by kernel_rfl) hQ' (fun o ho w => run_add1 Try.underlying2 ho (get_same (by (try simp only [put_size]); exact q 59 (by decide))) w) ?_
    refine wpAny_all (rs := [6]) (by kernel_rfl) (by decide) fun j hj => ?_
    obtain rfl : j = 6 := by simpa using hj
    refine val2 (op := .mapEntry 71 (.tmp 55) (.tmp 58)) (d := 61) (by kernel_rfl) (fun o ho => run_me ho ((get_ne (by decide)).trans ((get_ne (by decide)).trans ((get_ne (by decide)).trans ((get_ne (by decide)).trans ((get_ne (by decide)).trans (get_same (by (try simp only [put_size]); exact q 55 (by decide)))))))) ((get_ne (by decide)).trans ((get_ne (by decide)).trans (get_same (by (try simp only [put_size]); exact q 58 (by decide))))) hobj) ?_
    refine take2 (i := 7) (op := .extract (.tmp 61) 1) (d := 62) (by kernel_rfl) (by kernel_rfl) (by kernel_rfl) (by kernel_rfl) hQ' (fun o ho w => run_ex ho (get_same (by (try simp only [put_size]); exact q 61 (by decide))) w) ?_
    refine wpAny_all (rs := [8]) (by kernel_rfl) (by decide) fun j hj => ?_
    obtain rfl : j = 8 := by simpa using hj
    refine skip2 (op := .entryStore 71 (.tmp 55) (.tmp 62) (.tmp 60)) (by kernel_rfl) (fun o ho => run_es ho ((get_ne (by decide)).trans ((get_ne (by decide)).trans ((get_ne (by decide)).trans ((get_ne (by decide)).trans ((get_ne (by decide)).trans ((get_ne (by decide)).trans ((get_ne (by decide)).trans (get_same (by (try simp only [put_size]); exact q 55 (by decide)))))))))) (get_same (by (try simp only [put_size]); exact q 62 (by decide))) ((get_ne (by decide)).trans ((get_ne (by decide)).trans (get_same (by (try simp only [put_size]); exact q 60 (by decide))))) (idx_put _) hobj2) ?_
    refine wpAny_done (by kernel_rfl) ?_ _
    refine ⟨rfl, ?_⟩
    refine hend _ ?_ ?_
    rotate_left
    · simp only [put_defers]; exact hi.inv.defers
    have hs2 := ((((((((hs.put (d := some 55) (v := V.any) (cv := .map (some m.blk)) trivial).put (d := some 56) (v := V.any) (cv := .int .i64 x) trivial).put (d := some 57) (v := V.any) (cv := .int .i64 y) trivial).put (d := some 58) (v := V.any) (cv := keyV (x, y)) trivial).put (d := some 59) (v := V.any) (cv := .int .i64 (lookL L (x, y))) trivial).put (d := some 60) (v := V.any) (cv := .int .i64 ((fun v => IntKind.i64.wrap (v + 1)) (lookL L (x, y)))) trivial).put (d := some 61) (v := V.any) (cv := .tuple #[.int .i64 (lookL L (x, y)), .int .i64 (((idxL L (x, y)).getD L.length : Nat) : Int)]) trivial).put (d := some 62) (v := V.any) (cv := .int .i64 (((idxL L (x, y)).getD L.length : Nat) : Int)) trivial)
    refine hs2.weak (by rw [anyA_len]; simp [putV]) fun j => ?_
    rcases anyA_nth [55, 56, 57, 58, 59, 60, 61, 62] st.t j with k | ⟨k1, k2⟩
    · exact .inl k
    · right
      rw [k2]
      simp only [putV, nth_set, List.length_set]
      try rw [List.length_set] at k1
      by_cases hj : j < st.t.length
      · have : j ∉ [55, 56, 57, 58, 59, 60, 61, 62] := fun h => absurd (k1 h) (by omega)
        simp only [List.mem_cons, List.not_mem_nil, or_false, not_or] at this
        simp [this]
      · have c : ∀ d, d ≤ 113 → j ≠ d := fun d hd => by omega
        simp [c]
  · refine val2 (op := .mapEntry 71 (.tmp 55) (.tmp 58)) (d := 61) (by kernel_rfl) (fun o ho => run_me ho ((get_ne (by decide)).trans ((get_ne (by decide)).trans ((get_ne (by decide)).trans (get_same (by (try simp only [put_size]); exact q 55 (by decide)))))) (get_same (by (try simp only [put_size]); exact q 58 (by decide))) hobj) ?_
    refine take2 (i := 7) (op := .extract (.tmp 61) 1) (d := 62) (by kernel_rfl) (by kernel_rfl) (by kernel_rfl) (by kernel_rfl) hQ' (fun o ho w => run_ex ho (get_same (by (try simp only [put_size]); exact q 61 (by decide))) w) ?_
    refine wpAny_all (rs := [4]) (by kernel_rfl) (by decide) fun j hj => ?_
    obtain rfl : j = 4 := by simpa using hj
    refine val2 (op := .lookup 71 (.tmp 55) (.tmp 58) false) (d := 59) (by kernel_rfl) (fun o ho => (run_lk ho ((get_ne (by decide)).trans ((get_ne (by decide)).trans ((get_ne (by decide)).trans ((get_ne (by decide)).trans ((get_ne (by decide)).trans (get_same (by (try simp only [put_size]); exact q 55 (by decide)))))))) ((get_ne (by decide)).trans ((get_ne (by decide)).trans (get_same (by (try simp only [put_size]); exact q 58 (by decide))))) hobj2).trans (by rw [look_put])) ?_
    refine take2 (i := 5) (op := .binOp .add 2 (.tmp 59) (.const (.int .i64 1)) 2) (d := 60) (by kernel_rfl) (by kernel_rfl) (by kernel_rfl) (by kernel_rfl) hQ' (fun o ho w => run_add1 Try.underlying2 ho (get_same (by (try simp only [put_size]); exact q 59 (by decide))) w) ?_
    refine wpAny_all (rs := [8]) (by kernel_rfl) (by decide) fun j hj => ?_
    obtain rfl : j = 8 := by simpa using hj
    refine skip2 (op := .entryStore 71 (.tmp 55) (.tmp 62) (.tmp 60)) (by kernel_rfl) (fun o ho => run_es ho ((get_ne (by decide)).trans ((get_ne (by decide)).trans ((get_ne (by decide)).trans ((get_ne (by decide)).trans ((get_ne (by decide)).trans ((get_ne (by decide)).trans ((get_ne (by decide)).trans (get_same (by (try simp only [put_size]); exact q 55 (by decide)))))))))) ((get_ne (by decide)).trans ((get_ne (by decide)).trans (get_same (by (try simp only [put_size]); exact q 62 (by decide))))) (get_same (by (try simp only [put_size]); exact q 60 (by decide))) (idx_put _) hobj2) ?_
    refine wpAny_done (by kernel_rfl) ?_ _
    refine ⟨rfl, ?_⟩
    refine hend _ ?_ ?_
    rotate_left
    · simp only [put_defers]; exact hi.inv.defers
    have hs2 := ((((((((hs.put (d := some 55) (v := V.any) (cv := .map (some m.blk)) trivial).put (d := some 56) (v := V.any) (cv := .int .i64 x) trivial).put (d := some 57) (v := V.any) (cv := .int .i64 y) trivial).put (d := some 58) (v := V.any) (cv := keyV (x, y)) trivial).put (d := some 61) (v := V.any) (cv := .tuple #[.int .i64 (lookL L (x, y)), .int .i64 (((idxL L (x, y)).getD L.length : Nat) : Int)]) trivial).put (d := some 62) (v := V.any) (cv := .int .i64 (((idxL L (x, y)).getD L.length : Nat) : Int)) trivial).put (d := some 59) (v := V.any) (cv := .int .i64 (lookL L (x, y))) trivial).put (d := some 60) (v := V.any) (cv := .int .i64 ((fun v => IntKind.i64.wrap (v + 1)) (lookL L (x, y)))) trivial)
    refine hs2.weak (by rw [anyA_len]; simp [putV]) fun j => ?_
    rcases anyA_nth [55, 56, 57, 58, 59, 60, 61, 62] st.t j with k | ⟨k1, k2⟩
    · exact .inl k
    · right
      rw [k2]
      simp only [putV, nth_set, List.length_set]
      try rw [List.length_set] at k1
      by_cases hj : j < st.t.length
      · have : j ∉ [55, 56, 57, 58, 59, 60, 61, 62] := fun h => absurd (k1 h) (by omega)
        simp only [List.mem_cons, List.not_mem_nil, or_false, not_or] at this
        simp [this]
      · have c : ∀ d, d ≤ 113 → j ≠ d := fun d hd => by omega
        simp [c]
set_option maxHeartbeats 2000000 in
theorem snd33 : GSound Try.prog 33 (opsT 33) true g33 := by
  intro μ0 h0 w0 st st' hg Q hQ μ a w hi
  unfold g33 raise at hg
  split at hg
  case h_2 => cases hg
  rename_i i x y hl e5 ea eb
  split at hg
  case h_2 => cases hg
  rename_i L g hL hf
  cases hg
  unfold bySlot at hf
  split at hf
  case h_2 => cases hf
  rename_i z ez
  cases hf
  have hb := mpAt_spec hL
  have hl := of_decide_eq_true hl
  have hs : Slots μ st.t a := hi.inv.slots
  have f5 := hs.2 5
  have fa := hs.2 16
  have fb := hs.2 17
  rw [e5] at f5
  rw [ea] at fa
  rw [eb] at fb
  obtain ⟨m, hm, f5⟩ := repMp f5
  have fa : a.tmps.getD 16 undef = .int .i64 x := fa
  have fb : a.tmps.getD 17 undef = .int .i64 y := fb
  have fx := hs.2 15
  rw [ez] at fx
  have fx : a.tmps.getD 15 undef = .int .i64 z := fx
  have q : ∀ d, d ≤ 113 → d < a.tmps.size := fun d hd => by rw [hs.1]; omega
  refine wp_mono (Q := fun e a' w' => e = .normal ∧ Q .normal a' w') ?_ (fun e a' w' ⟨h1, h2⟩ => by subst h1; exact h2)
  refine wp_region_any mixed ?_
  have hi1 := hi.drewN 1
  have hobj : (w.drewN 1).heap[m.blk]? = some (mapObj L) := (hi1.maps i m L hm hb).obj
  have hblt : m.blk < (w.drewN 1).heap.size := heap_lt hobj
  have hobj2 : (setB (w.drewN 1) m.blk (mapObj (putL L (x, y) (lookL L (x, y))))).heap[m.blk]? = some (mapObj (putL L (x, y) (lookL L (x, y)))) := by
    show ((w.drewN 1).heap.setIfInBounds m.blk _)[m.blk]? = _
    rw [Array.getElem?_setIfInBounds_self_of_lt hblt]
  have hQ' : ∀ (c : _) (a' : Act) (w' : World), ¬ ((Exit.panic c : Exit) = .normal ∧ Q .normal a' w') := fun c a' w' h => by cases h.1
  have hend : ∀ a' : Act, Slots μ (anyA [98, 99, 100, 101, 102, 103, 104, 105, 106] st.t) a' → a'.defers = [] → Q .normal a' (setB (setB (w.drewN 1) m.blk (mapObj (putL L (x, y) (lookL L (x, y))))) m.blk (mapObj (putL (putL L (x, y) (lookL L (x, y))) (x, y) (IntKind.i64.wrap (lookL L (x, y) - z))))) := fun a' hs' hd' => by
    rw [put_put]
    have e : ∀ o o', setB (setB (w.drewN 1) m.blk o) m.blk o' = setB (w.drewN 1) m.blk o' := fun o o' => by unfold setB; simp [Array.setIfInBounds_setIfInBounds]
    rw [e]
    exact hQ μ a' _ (hi1.wrote hm hb hs' hd')
  refine take2 (i := 0) (op := .move (.tmp 5)) (d := 98) (by kernel_rfl) (by kernel_rfl) (by kernel_rfl) (by kernel_rfl) hQ' (fun o ho w => run_move ho f5 w) ?_
  refine take2 (i := 1) (op := .move (.tmp 16)) (d := 99) (by kernel_rfl) (by kernel_rfl) (by kernel_rfl) (by kernel_rfl) hQ' (fun o ho w => run_move ho ((get_ne (by decide)).trans fa) w) ?_
  refine take2 (i := 2) (op := .move (.tmp 17)) (d := 100) (by kernel_rfl) (by kernel_rfl) (by kernel_rfl) (by kernel_rfl) hQ' (fun o ho w => run_move ho ((get_ne (by decide)).trans ((get_ne (by decide)).trans fb)) w) ?_
  refine take2 (i := 3) (op := .build 72 #[(0, .tmp 99), (1, .tmp 100)]) (d := 101) (by kernel_rfl) (by kernel_rfl) (by kernel_rfl) (by kernel_rfl) hQ' (fun o ho w => run_bld ho ((get_ne (by decide)).trans (get_same (by (try simp only [put_size]); exact q 99 (by decide)))) (get_same (by (try simp only [put_size]); exact q 100 (by decide))) w) ?_
  refine take2 (i := 5) (op := .move (.tmp 15)) (d := 103) (by kernel_rfl) (by kernel_rfl) (by kernel_rfl) (by kernel_rfl) hQ' (fun o ho w => run_move ho ((get_ne (by decide)).trans ((get_ne (by decide)).trans ((get_ne (by decide)).trans ((get_ne (by decide)).trans fx)))) w) ?_
  refine wpAny_all (rs := [4, 7]) (by kernel_rfl) (by decide) fun j hj => ?_
  have hj : j = 4 ∨ j = 7 := by simpa using hj
  rcases hj with rfl | rfl
  · refine val2 (op := .lookup 71 (.tmp 98) (.tmp 101) false) (d := 102) (by kernel_rfl) (fun o ho => run_lk ho ((get_ne (by decide)).trans ((get_ne (by decide)).trans ((get_ne (by decide)).trans ((get_ne (by decide)).trans (get_same (by (try simp only [put_size]); exact q 98 (by decide))))))) ((get_ne (by decide)).trans (get_same (by (try simp only [put_size]); exact q 101 (by decide)))) hobj) ?_
    refine take2 (i := 6) (op := .binOp .sub 2 (.tmp 102) (.tmp 103) 2) (d := 104) (by kernel_rfl) (by kernel_rfl) (by kernel_rfl) (by kernel_rfl) hQ' (fun o ho w => run_sub ho (get_same (by (try simp only [put_size]); exact q 102 (by decide))) ((get_ne (by decide)).trans (get_same (by (try simp only [put_size]); exact q 103 (by decide)))) w) ?_
    refine wpAny_all (rs := [7]) (by kernel_rfl) (by decide) fun j hj => ?_
    obtain rfl : j = 7 := by simpa using hj
    refine val2 (op := .mapEntry 71 (.tmp 98) (.tmp 101)) (d := 105) (by kernel_rfl) (fun o ho => run_me ho ((get_ne (by decide)).trans ((get_ne (by decide)).trans ((get_ne (by decide)).trans ((get_ne (by decide)).trans ((get_ne (by decide)).trans ((get_ne (by decide)).trans (get_same (by (try simp only [put_size]); exact q 98 (by decide))))))))) ((get_ne (by decide)).trans ((get_ne (by decide)).trans ((get_ne (by decide)).trans (get_same (by (try simp only [put_size]); exact q 101 (by decide)))))) hobj) ?_
    refine take2 (i := 8) (op := .extract (.tmp 105) 1) (d := 106) (by kernel_rfl) (by kernel_rfl) (by kernel_rfl) (by kernel_rfl) hQ' (fun o ho w => run_ex ho (get_same (by (try simp only [put_size]); exact q 105 (by decide))) w) ?_
    refine wpAny_all (rs := [9]) (by kernel_rfl) (by decide) fun j hj => ?_
    obtain rfl : j = 9 := by simpa using hj
    refine skip2 (op := .entryStore 71 (.tmp 98) (.tmp 106) (.tmp 104)) (by kernel_rfl) (fun o ho => run_es ho ((get_ne (by decide)).trans ((get_ne (by decide)).trans ((get_ne (by decide)).trans ((get_ne (by decide)).trans ((get_ne (by decide)).trans ((get_ne (by decide)).trans ((get_ne (by decide)).trans ((get_ne (by decide)).trans (get_same (by (try simp only [put_size]); exact q 98 (by decide))))))))))) (get_same (by (try simp only [put_size]); exact q 106 (by decide))) ((get_ne (by decide)).trans ((get_ne (by decide)).trans (get_same (by (try simp only [put_size]); exact q 104 (by decide))))) (idx_put _) hobj2) ?_
    refine wpAny_done (by kernel_rfl) ?_ _
    refine ⟨rfl, ?_⟩
    refine hend _ ?_ ?_
    rotate_left
    · simp only [put_defers]; exact hi.inv.defers
    have hs2 := (((((((((hs.put (d := some 98) (v := V.any) (cv := .map (some m.blk)) trivial).put (d := some 99) (v := V.any) (cv := .int .i64 x) trivial).put (d := some 100) (v := V.any) (cv := .int .i64 y) trivial).put (d := some 101) (v := V.any) (cv := keyV (x, y)) trivial).put (d := some 103) (v := V.any) (cv := .int .i64 z) trivial).put (d := some 102) (v := V.any) (cv := .int .i64 (lookL L (x, y))) trivial).put (d := some 104) (v := V.any) (cv := .int .i64 ((fun v => IntKind.i64.wrap (v - z)) (lookL L (x, y)))) trivial).put (d := some 105) (v := V.any) (cv := .tuple #[.int .i64 (lookL L (x, y)), .int .i64 (((idxL L (x, y)).getD L.length : Nat) : Int)]) trivial).put (d := some 106) (v := V.any) (cv := .int .i64 (((idxL L (x, y)).getD L.length : Nat) : Int)) trivial)
    refine hs2.weak (by rw [anyA_len]; simp [putV]) fun j => ?_
    rcases anyA_nth [98, 99, 100, 101, 102, 103, 104, 105, 106] st.t j with k | ⟨k1, k2⟩
    · exact .inl k
    · right
      rw [k2]
      simp only [putV, nth_set, List.length_set]
      try rw [List.length_set] at k1
      by_cases hj : j < st.t.length
      · have : j ∉ [98, 99, 100, 101, 102, 103, 104, 105, 106] := fun h => absurd (k1 h) (by omega)
        simp only [List.mem_cons, List.not_mem_nil, or_false, not_or] at this
        simp [this]
      · have c : ∀ d, d ≤ 113 → j ≠ d := fun d hd => by omega
        simp [c]
  · refine val2 (op := .mapEntry 71 (.tmp 98) (.tmp 101)) (d := 105) (by kernel_rfl) (fun o ho => run_me ho ((get_ne (by decide)).trans ((get_ne (by decide)).trans ((get_ne (by decide)).trans ((get_ne (by decide)).trans (get_same (by (try simp only [put_size]); exact q 98 (by decide))))))) ((get_ne (by decide)).trans (get_same (by (try simp only [put_size]); exact q 101 (by decide)))) hobj) ?_
    refine take2 (i := 8) (op := .extract (.tmp 105) 1) (d := 106) (by kernel_rfl) (by kernel_rfl) (by kernel_rfl) (by kernel_rfl) hQ' (fun o ho w => run_ex ho (get_same (by (try simp only [put_size]); exact q 105 (by decide))) w) ?_
    refine wpAny_all (rs := [4]) (by kernel_rfl) (by decide) fun j hj => ?_
    obtain rfl : j = 4 := by simpa using hj
    refine val2 (op := .lookup 71 (.tmp 98) (.tmp 101) false) (d := 102) (by kernel_rfl) (fun o ho => (run_lk ho ((get_ne (by decide)).trans ((get_ne (by decide)).trans ((get_ne (by decide)).trans ((get_ne (by decide)).trans ((get_ne (by decide)).trans ((get_ne (by decide)).trans (get_same (by (try simp only [put_size]); exact q 98 (by decide))))))))) ((get_ne (by decide)).trans ((get_ne (by decide)).trans ((get_ne (by decide)).trans (get_same (by (try simp only [put_size]); exact q 101 (by decide)))))) hobj2).trans (by rw [look_put])) ?_
    refine take2 (i := 6) (op := .binOp .sub 2 (.tmp 102) (.tmp 103) 2) (d := 104) (by kernel_rfl) (by kernel_rfl) (by kernel_rfl) (by kernel_rfl) hQ' (fun o ho w => run_sub ho (get_same (by (try simp only [put_size]); exact q 102 (by decide))) ((get_ne (by decide)).trans ((get_ne (by decide)).trans ((get_ne (by decide)).trans (get_same (by (try simp only [put_size]); exact q 103 (by decide)))))) w) ?_
    refine wpAny_all (rs := [9]) (by kernel_rfl) (by decide) fun j hj => ?_
    obtain rfl : j = 9 := by simpa using hj
    refine skip2 (op := .entryStore 71 (.tmp 98) (.tmp 106) (.tmp 104)) (by kernel_rfl) (fun o ho => run_es ho ((get_ne (by decide)).trans ((get_ne (by decide)).trans ((get_ne (by decide)).trans ((get_ne (by decide)).trans ((get_ne (by decide)).trans ((get_ne (by decide)).trans ((get_ne (by decide)).trans ((get_ne (by decide)).trans (get_same (by (try simp only [put_size]); exact q 98 (by decide))))))))))) ((get_ne (by decide)).trans ((get_ne (by decide)).trans (get_same (by (try simp only [put_size]); exact q 106 (by decide))))) (get_same (by (try simp only [put_size]); exact q 104 (by decide))) (idx_put _) hobj2) ?_
    refine wpAny_done (by kernel_rfl) ?_ _
    refine ⟨rfl, ?_⟩
    refine hend _ ?_ ?_
    rotate_left
    · simp only [put_defers]; exact hi.inv.defers
    have hs2 := (((((((((hs.put (d := some 98) (v := V.any) (cv := .map (some m.blk)) trivial).put (d := some 99) (v := V.any) (cv := .int .i64 x) trivial).put (d := some 100) (v := V.any) (cv := .int .i64 y) trivial).put (d := some 101) (v := V.any) (cv := keyV (x, y)) trivial).put (d := some 103) (v := V.any) (cv := .int .i64 z) trivial).put (d := some 105) (v := V.any) (cv := .tuple #[.int .i64 (lookL L (x, y)), .int .i64 (((idxL L (x, y)).getD L.length : Nat) : Int)]) trivial).put (d := some 106) (v := V.any) (cv := .int .i64 (((idxL L (x, y)).getD L.length : Nat) : Int)) trivial).put (d := some 102) (v := V.any) (cv := .int .i64 (lookL L (x, y))) trivial).put (d := some 104) (v := V.any) (cv := .int .i64 ((fun v => IntKind.i64.wrap (v - z)) (lookL L (x, y)))) trivial)
    refine hs2.weak (by rw [anyA_len]; simp [putV]) fun j => ?_
    rcases anyA_nth [98, 99, 100, 101, 102, 103, 104, 105, 106] st.t j with k | ⟨k1, k2⟩
    · exact .inl k
    · right
      rw [k2]
      simp only [putV, nth_set, List.length_set]
      try rw [List.length_set] at k1
      by_cases hj : j < st.t.length
      · have : j ∉ [98, 99, 100, 101, 102, 103, 104, 105, 106] := fun h => absurd (k1 h) (by omega)
        simp only [List.mem_cons, List.not_mem_nil, or_false, not_or] at this
        simp [this]
      · have c : ∀ d, d ≤ 113 → j ≠ d := fun d hd => by omega
        simp [c]
end Go.Proofs.Ytbbggpcbnahgiaa.Ab
