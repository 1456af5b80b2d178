/- Appends: the small machine's step is the model's, whatever room the tape gives. Only lemmas. -/
import Derived.Test.YtlopdogjdfeikaaAbStep2
namespace Go.Proofs.Ytlopdogjdfeikaa.Ab
set_option linter.unusedVariables false
set_option linter.unusedSimpArgs false
open Go

theorem Rel.goneAt {μ : Mu} {h : H} {w : World} (r : Rel μ h w) (i : Nat) : Rel μ (h.set i .gone) w := by
  have get : ∀ (j : Nat) (rw : Bool) (c : C), (h.set i .gone)[j]? = some (.at rw c) → h[j]? = some (.at rw c) := by
    intro j rw c hj
    by_cases e : i = j
    · subst e
      rw [List.getElem?_set_self'] at hj
      cases hh : h[i]? <;> simp [hh] at hj
    · rwa [List.getElem?_set_ne e] at hj
  exact ⟨by simp [r.len], fun j m rw c hm hb => r.cell j m rw c hm (get j rw c hb), fun j m c hm hb => r.own j m c hm (get j _ c hb), fun j m rw c hm hb hl => r.lt j m rw c hm (get j rw c hb) hl,
    fun j k m n c rw d hne hm hn hb hd hl => r.sep j k m n c rw d hne hm hn (get j _ c hb) (get k rw d hd) hl, fun k cur hk => ⟨(r.fz k cur hk).1, fun j m c hm hb => (r.fz k cur hk).2 j m c hm (get j _ c hb)⟩⟩

theorem Rel.move {μ : Mu} {h : H} {w : World} (r : Rel μ h w) {i : Nat} {m : M} {rw : Bool} {c : C} (hm : μ.l[i]? = some m) (hb : h[i]? = some (.at rw c)) :
    Rel (μ.app [m]) (h.set i .gone ++ [.at rw c]) w := by
  have hi : i < h.length := getElem?_lt hb
  have get : ∀ (j : Nat) (n : M) (rw' : Bool) (d : C), (μ.l ++ [m])[j]? = some n → (h.set i .gone ++ [.at rw c])[j]? = some (.at rw' d) →
      (j < h.length ∧ j ≠ i ∧ μ.l[j]? = some n ∧ h[j]? = some (.at rw' d)) ∨ (j = h.length ∧ n = m ∧ rw' = rw ∧ d = c) := by
    intro j n rw' d h1 h2
    by_cases hj : j < h.length
    · rw [List.getElem?_append_left (by simpa using hj)] at h2
      rw [List.getElem?_append_left (by rw [r.len]; exact hj)] at h1
      by_cases e : i = j
      · subst e
        rw [List.getElem?_set_self hi] at h2
        cases h2
      · rw [List.getElem?_set_ne e] at h2
        exact .inl ⟨hj, fun e' => e e'.symm, h1, h2⟩
    · have hlt := getElem?_lt h2
      simp at hlt
      have hj' : j = h.length := by omega
      subst hj'
      rw [← r.len] at h1
      simp at h1
      rw [List.getElem?_append_right (by simp)] at h2
      simp at h2
      exact .inr ⟨rfl, h1.symm, h2.1.symm, h2.2.symm⟩
  refine ⟨by simp [r.len], ?_, ?_, ?_, ?_, ?_⟩
  · intro j n rw' d h1 h2 p x hx
    rcases get j n rw' d h1 h2 with ⟨_, _, h3, h4⟩ | ⟨_, e1, e2, e3⟩
    · obtain ⟨cv, h5, h6⟩ := r.cell j n rw' d h3 h4 p x hx
      exact ⟨cv, h5, h6.pre (.app μ _)⟩
    · subst e1; subst e2; subst e3
      obtain ⟨cv, h5, h6⟩ := r.cell i n rw' d hm hb p x hx
      exact ⟨cv, h5, h6.pre (.app μ _)⟩
  · intro j n d h1 h2
    rcases get j n _ d h1 h2 with ⟨_, _, h3, h4⟩ | ⟨_, e1, e2, e3⟩
    · exact r.own j n d h3 h4
    · subst e1; subst e2; subst e3
      exact r.own i n d hm hb
  · intro j n rw' d h1 h2 hl
    rcases get j n rw' d h1 h2 with ⟨_, _, h3, h4⟩ | ⟨_, e1, e2, e3⟩
    · exact r.lt j n rw' d h3 h4 hl
    · subst e1; subst e2; subst e3
      exact r.lt i n rw' d hm hb hl
  · intro j k n n' d rw' d' hne h1 h2 h3 h4 hl
    rcases get j n _ d h1 h3 with ⟨a1, a2, a3, a4⟩ | ⟨a1, a2, a3, a4⟩ <;> rcases get k n' rw' d' h2 h4 with ⟨b1, b2, b3, b4⟩ | ⟨b1, b2, b3, b4⟩
    · exact r.sep j k n n' d rw' d' hne a3 b3 a4 b4 hl
    · subst b2; subst b3; subst b4
      exact r.sep j i n n' d rw' d' a2 a3 hm a4 hb hl
    · subst a2; subst a3; subst a4
      exact r.sep i k n n' d rw' d' (fun e => b2 e.symm) hm b3 hb b4 hl
    · omega
  · intro k cur hk
    refine ⟨(r.fz k cur hk).1, fun j n d h1 h2 => ?_⟩
    rcases get j n _ d h1 h2 with ⟨_, _, h3, h4⟩ | ⟨_, e1, e2, e3⟩
    · exact (r.fz k cur hk).2 j n d h3 h4
    · subst e1; subst e2; subst e3
      exact (r.fz k cur hk).2 i n d hm hb

section
variable {P : Program} {R : Type} {r : R}

/-- The cells of a part of a block. -/
theorem cells_of {μ : Mu} {h : H} {w : World} {i : Nat} {m : M} {rw : Bool} {c : C} (hr : Rel μ h w) (hm : μ.l[i]? = some m) (hb : h[i]? = some (.at rw c)) (o : Nat) :
    ∀ n, o + n ≤ c.len → ∃ vs : List Value, vs.length = n ∧ (∀ p u, vs[p]? = some u → w.cell? ((⟨m.blk, m.off + o, none⟩ : Addr).add p) = some u) ∧
      (∀ p y, p < n → c.get? (o + p) = some y → ∃ u, vs[p]? = some u ∧ RepA μ y u) ∧ ∀ u ∈ vs, u.oneCell' = true
  | 0, _ => ⟨[], rfl, fun p u h => by simp at h, fun p y h => by omega, fun u h => by cases h⟩
  | n + 1, hn => by
    obtain ⟨vs, h1, h2, h3, h4⟩ := cells_of hr hm hb o n (by omega)
    obtain ⟨y, hy⟩ := C.get?_some (c := c) (j := o + n) (by omega)
    obtain ⟨cv, h5, h6⟩ := hr.cell i m rw c hm hb (o + n) y hy
    refine ⟨vs ++ [cv], by simp [h1], fun p u hp => ?_, fun p y' hp hy' => ?_, fun u hu => ?_⟩
    · by_cases hlt : p < n
      · rw [List.getElem?_append_left (by omega)] at hp
        exact h2 p u hp
      · have := getElem?_lt hp
        simp at this
        have hpn : p = n := by omega
        subst hpn
        rw [List.getElem?_append_right (by omega)] at hp
        simp [h1] at hp
        subst hp
        rw [addr_add, Nat.add_assoc]
        exact h5
    · by_cases hlt : p < n
      · obtain ⟨u, h7, h8⟩ := h3 p y' hlt hy'
        exact ⟨u, by rw [List.getElem?_append_left (by omega)]; exact h7, h8⟩
      · have hpn : p = n := by omega
        subst hpn
        rw [hy] at hy'
        cases hy'
        exact ⟨cv, by rw [List.getElem?_append_right (by omega)]; simp [h1], h6⟩
    · rcases List.mem_append.1 hu with hu | hu
      · exact h4 u hu
      · simp at hu; subst hu; exact h6.one.1

/-- What is appended. -/
theorem src_cells {μ : Mu} {h : H} {w : World} {j o m sz : Nat} {rw : Bool} {c : C} {cv : Value} (hr : Rel μ h w) (hb : h[j]? = some (.at rw c)) (hlen : o + m * sz ≤ c.len) (hv : RepV μ (.sl j o m) cv) :
    ∃ (ad : Addr) (cc : Nat) (vs : List Value), cv = .slice (some ad) m cc ∧ vs.length = m * sz ∧ (∀ p u, vs[p]? = some u → w.cell? (ad.add p) = some u) ∧
      (∀ p y, (c.part o (m * sz)).get? p = some y → ∃ u, vs[p]? = some u ∧ RepA μ y u) ∧ ∀ u ∈ vs, u.oneCell' = true := by
  obtain ⟨mm, ad, cc, hm, rfl, _, _, had, _⟩ := hv
  rcases Nat.eq_zero_or_pos m with h0 | h0
  · subst h0
    refine ⟨ad, cc, [], rfl, by simp, fun p u hp => by simp at hp, fun p y hp => ?_, fun u hu => by cases hu⟩
    have := (C.part_get hp).1
    omega
  · have := had (.inl h0)
    subst this
    obtain ⟨vs, h1, h2, h3, h4⟩ := cells_of hr hm hb o (m * sz) hlen
    exact ⟨_, cc, vs, rfl, h1, h2, fun p y hp => h3 p y (C.part_get hp).1 (C.part_get hp).2, h4⟩

theorem append_room {w : World} (t ty e e' : TypeId) (i : TypeInfo) (ht : P.underlying t = some (.slice e)) (hi : P.info? e = some i)
    (g sLen sCap : Nat) (cur : Array Value) (hg : w.heap[g]? = some (.cells cur e' (0, 0)))
    (a : Addr) (m c : Nat) (news : List Value) (hl : news.length = m * i.size) (hnews : ∀ j u, news[j]? = some u → w.cell? (a.add j) = some u) (h1 : ∀ u ∈ news, u.oneCell' = true)
    (hroom : sLen + m ≤ sCap) (hfit : sLen * i.size + news.length ≤ cur.size) :
    (Builtin.append_ #[t, t] ty #[.slice (some ⟨g, 0, none⟩) sLen sCap, .slice (some a) m c]).run P w =
      .ok (.slice (some ⟨g, 0, none⟩) (sLen + m) sCap) (w.setRow g (cur.toList.take (sLen * i.size) ++ news ++ cur.toList.drop (sLen * i.size + news.length)).toArray) := by
  have hf := run_firstCells_some (P := P) w i.size m a m c news hl hnews
  have hst := run_storeCells_at P g (sLen * i.size) e' news 0 cur w hg (by simpa using hfit) h1
  simp only [Nat.add_zero] at hst
  simp [Builtin.append_, run_underlying ht, sizeOf, typeInfo, hi, Builtin.lenOf, hroom, hf, Addr.add_lit, hst]

/-- Nothing is appended. -/
theorem append_none {w : World} (t ty e : TypeId) (i : TypeInfo) (ht : P.underlying t = some (.slice e)) (hi : P.info? e = some i) (b : Option Addr) (n c : Nat) (hn : n ≤ c) (x : Option Addr) :
    (Builtin.append_ #[t, t] ty #[.slice b n c, .slice x 0 0]).run P w = .ok (.slice b n c) w := by
  cases b <;> cases x <;> simp [Builtin.append_, run_underlying ht, sizeOf, typeInfo, hi, Builtin.lenOf, hn, Builtin.firstCells, loadCells, loadCellsFrom, storeCells]

theorem grown_cells {μ : Mu} {c d c' : C} (hc : c.app d = some c') {olds news : List Value} {n sz : Nat} (ho : olds.length = n * sz) (hcl : c.len = n * sz)
    (h1 : ∀ p y, p < n * sz → c.get? p = some y → ∃ u, olds[p]? = some u ∧ RepA μ y u) (h2 : ∀ p y, d.get? p = some y → ∃ u, news[p]? = some u ∧ RepA μ y u) (rest : List Value) :
    ∀ j x, c'.get? j = some x → ∃ cv, (olds ++ news ++ rest)[j]? = some cv ∧ RepA μ x cv := by
  obtain ⟨a1, a2, a3⟩ := C.app_spec hc
  intro j x hx
  rcases a3 j x hx with ⟨b1, b2⟩ | ⟨b1, b2⟩
  · obtain ⟨u, h3, h4⟩ := h1 j x (by omega) b2
    refine ⟨u, ?_, h4⟩
    rw [List.append_assoc, List.getElem?_append_left (by omega)]
    exact h3
  · obtain ⟨u, h3, h4⟩ := h2 _ x b2
    refine ⟨u, ?_, h4⟩
    have := getElem?_lt h3
    rw [List.append_assoc, List.getElem?_append_right (by omega), List.getElem?_append_left (by omega)]
    rw [show j - olds.length = j - c.len by omega]
    exact h3

theorem append_ok {ty : Ty} (hty : TyOk P ty) {t : List V} {h : H} {o : Oper} {s x : Operand} {st xt : TypeId} {K : V → H → Option R}
    (ho : o.op = .call ⟨.builtin .append, ⟨[s, x]⟩, ⟨[st, xt]⟩⟩) (e : appendK ty h st xt (ev t s) (ev t x) K = some r) : ∃ v h', K v h' = some r ∧ OpOk P o t h v h' := by
  unfold appendK at e
  split at e
  rotate_left
  · cases e
  rename_i hst
  subst hst
  split at e
  rotate_left
  · cases e
  rename_i el hst
  obtain ⟨_, _, dJ, rJ⟩ := row hty hst
  have := desc_slice rJ.desc rfl
  subst this
  split at e
  rotate_left
  · cases e
  rename_i I hI
  obtain ⟨i, z, d, rI⟩ := row hty hI
  split at e
  · cases e
  rename_i hsz
  simp only [decide_eq_true_eq] at hsz
  obtain ⟨hs1, hs2⟩ := hsz
  -- how the model runs it
  have wrap : ∀ {v : V} {h' : H}, (∀ (μ : Mu) (a b : Value) (w : World), RepV μ (ev t s) a → RepV μ (ev t x) b → Rel μ h w →
      ∃ cv w', (Builtin.append_ #[st, st] o.type #[a, b]).run P w = .ok cv w' ∧ Goes μ h w v h' cv w') → OpOk P o t h v h' := by
    intro v h' hh
    refine OpOk.of_value fun μ ρ w hρ hr => ?_
    obtain ⟨cv, w', h1, h2⟩ := hh μ (ρ s) (ρ x) w (hρ s (by rw [ho]; simp [Op.operands, Call.operands])) (hρ x (by rw [ho]; simp [Op.operands, Call.operands])) hr
    refine ⟨cv, w', ?_, h2⟩
    have : execOp ρ o = execOp ρ { o with op := .call ⟨.builtin .append, ⟨[s, x]⟩, ⟨[st, st]⟩⟩ } := by rw [← ho]
    rw [this]
    simp only [BigFrame.execOp_builtin, BigFrame.builtin_append, List.map_toArray, List.map_cons, List.map_nil, Sem.run_bind, h1, Result.andThen]
    rfl
  have hzl : z.cells.size = I.size := by
    have := (rI.rep ⟨noZ, []⟩).len
    rw [hs2] at this
    simpa using this
  -- the new block's cells behind a move
  unfold srcK at e
  split at e
  · -- a slice is appended
    rename_i j oo m hx
    have e2 := hgetK_spec e
    clear e
    obtain ⟨rwx, c, hb, e⟩ := e2
    split at e
    rotate_left
    · cases e
    rename_i hfit
    simp only [decide_eq_true_eq] at hfit
    dsimp only at e
    split at e
    · rename_i heq; cases heq
    · rename_i heq; cases heq
    · rename_i heq; cases heq
    · -- onto a slice
      rename_i ii n dd hs heq
      cases heq
      obtain ⟨rws, cs, hbs, e⟩ := hgetK_spec e
      split at e
      · cases e
      rename_i hchk
      simp only [Bool.and_eq_true, decide_eq_true_eq, boundB] at hchk
      obtain ⟨⟨hrw, hfull, hesz⟩, hb1, hb2⟩ := hchk
      subst hrw
      split at e
      rotate_left
      · cases e
      rename_i jj oo' mm' hx'
      rw [hx] at hx'
      cases hx'
      split at e
      · cases e
      rename_i hne
      simp only [decide_eq_false_iff_not] at hne
      split at e
      rotate_left
      · cases e
      rename_i c' hc'
      refine ⟨_, _, e, wrap fun μ a b w ha hb' hr => ?_⟩
      rw [hs] at ha
      rw [hx] at hb'
      obtain ⟨M0, ad0, cap, hM0, rfl, hncap, hcapm, had0, hown⟩ := ha
      have := had0 (.inr rfl)
      subst this
      obtain ⟨ho1, ho2, ho3, cur, hcur, hcsz⟩ := hr.own ii M0 cs hM0 hbs
      have hcapsz : cap * I.size = cur.size := by rw [hcsz, ← hown rfl ho1, ho3, hesz]
      obtain ⟨ad, cc, news, rfl, hn1, hn2, hn3, hn4⟩ := src_cells hr hb hfit hb'
      obtain ⟨olds, hol1, hol2, hol3, hol4⟩ := cells_of hr hM0 hbs 0 (n * I.size) (by omega)
      have happ := C.app_spec hc'
      by_cases hroom : n + m ≤ cap
      · -- in place
        have hfit2 : n * I.size + news.length ≤ cur.size := by rw [hn1, ← hcapsz, ← Nat.add_mul]; exact Nat.mul_le_mul_right _ hroom
        have hrun := append_room (P := P) (w := w) st o.type el M0.el i rJ.under rI.info M0.blk n cap cur hcur ad m cc news (by rw [rI.size]; exact hn1) hn2 hn4 hroom (by rw [rI.size]; exact hfit2)
        rw [rI.size] at hrun
        refine ⟨_, _, by rw [ho2]; exact hrun, ?_⟩
        have hset : Ev μ h w μ (h.set ii (.at true c')) (w.setRow M0.blk (cur.toList.take (n * I.size) ++ news ++ cur.toList.drop (n * I.size + news.length)).toArray) := by
          refine Ev.set hr hM0 hbs (by rw [happ.2.1]) ⟨rfl, rfl, rfl, by simp, fun k _ hk => setRow_other w M0.blk k _ hk⟩ (setRow_heap w M0.blk cur _ M0.el _ hcur) (by simp; omega) ?_
          have hcur0 : cur.toList.take (n * I.size) = olds := by
            apply List.ext_getElem?
            intro p
            by_cases hp : p < n * I.size
            · obtain ⟨u, hu⟩ : ∃ u, olds[p]? = some u := ⟨_, List.getElem?_eq_getElem (by omega)⟩
              have h5 := hol2 p u hu
              rw [addr_add, ho2] at h5
              simp only [World.cell?, hcur, Nat.zero_add] at h5
              rw [hu, List.getElem?_take, if_pos hp]
              simpa using h5
            · rw [List.getElem?_eq_none (by simp; omega), List.getElem?_eq_none (by omega)]
          intro p y hy
          have := grown_cells hc' hol1 hfull.symm (fun p y hp hy => hol3 p y hp (by rw [Nat.zero_add]; exact hy)) hn3 (cur.toList.drop (n * I.size + news.length)) p y hy
          rw [hcur0]
          simpa using this
        have hii : ii < h.length := getElem?_lt hbs
        have hmv := hset.rel.move hM0 (List.getElem?_set_self hii)
        have hhh : (h.set ii (.at true c')).set ii .gone = h.set ii .gone := by simp
        rw [hhh] at hmv
        refine ⟨μ.app [M0], ⟨hmv, .app μ _, hset.fr, fun j rw d hj hd => ?_, fun j n' rw d hj hn' hd => ?_, fun _ _ h => .inl h⟩, ?_⟩
        · rw [List.getElem?_append_left (by rw [List.length_set, ← hr.len]; exact hj)] at hd
          by_cases e1 : ii = j
          · subst e1; rw [List.getElem?_set_self hii] at hd; cases hd
          · rw [List.getElem?_set_ne e1] at hd; exact ⟨d, hd, id⟩
        · have hlt := getElem?_lt hn'
          simp at hlt
          have e1 : j = μ.l.length := by omega
          subst e1
          simp at hn'
          subst hn'
          rw [hr.len, List.getElem?_append_right (by simp)] at hd
          simp at hd
          exact ⟨hd.1, .inl ⟨ii, _, cs, hM0, hbs, rfl⟩⟩
        · refine ⟨M0, _, cap, new_at hr.len, rfl, hroom, hcapm, fun _ => by rw [ho2], fun _ _ => ?_⟩
          exact hown rfl ho1
      · -- in a new block
        have hrun := run_append_grow (P := P) w st o.type el i z rJ.under rI.info rI.zero ⟨M0.blk, M0.off + 0, none⟩ n cap olds (by rw [rI.size]; exact hol1) hol2 ad m cc news (by rw [rI.size]; exact hn1) hn2 (by omega) (by omega) (growslice_fits (by omega) (by rw [rI.bytes]; exact hb2))
        have hge := grownCap_ge w (n + m) cap el
        have hgm := grownCap_le_maxLen w (n + m) cap el (by unfold maxLen; omega)
        have hg1 : Goes μ (h.set ii .gone) w.drew (.sl (h.set ii .gone).length 0 (n + m)) (h.set ii .gone ++ [.at true c']) (.slice (some ⟨w.drew.heap.size, 0, none⟩) (n + m) (grownCap w (n + m) cap el))
            (w.drew.alloc (.cells (olds.toArray ++ news.toArray ++ Builtin.zeroCells z.cells (grownCap w (n + m) cap el - (n + m))) el)) := by
          refine goes_sl ((hr.goneAt ii).drewN 1) c' el _ (fun p y hy => ?_) (n + m) _ hge hgm ?_
          · have := grown_cells hc' hol1 hfull.symm (fun p y hp hy => hol3 p y hp (by rw [Nat.zero_add]; exact hy)) hn3 (Builtin.zeroCells z.cells (grownCap w (n + m) cap el - (n + m))).toList p y hy
            simpa [← Array.getElem?_toList] using this
          · rw [happ.2.1, hesz]
            simp only [Array.size_append, List.size_toArray, size_zeroCells, hzl, hol1, hn1, ← Nat.add_mul]
            congr 1
            omega
        have hlen : (h.set ii .gone).length = h.length := by simp
        rw [hlen] at hg1
        refine ⟨_, _, hrun, ?_⟩
        obtain ⟨μ', he, hv⟩ := hg1
        refine ⟨μ', ⟨he.rel, he.pre, ⟨he.fr.os, he.fr.tape, he.fr.output, he.fr.size, fun k hk hn => he.fr.block k hk fun hw => hn ?_⟩, fun j rw d hj hd => ?_, fun j n' rw d hj hn' hd => ?_, fun j n' rw => ?_⟩, hv⟩
        · obtain ⟨q, M1, c1, q1, q2, q3⟩ := hw
          by_cases e1 : ii = q
          · subst e1; rw [List.getElem?_set_self (getElem?_lt hbs)] at q2; cases q2
          · rw [List.getElem?_set_ne e1] at q2; exact ⟨q, M1, c1, q1, q2, q3⟩
        · obtain ⟨d', hd', hdl⟩ := he.old j rw d hj hd
          by_cases e1 : ii = j
          · subst e1; rw [List.getElem?_set_self (getElem?_lt hbs)] at hd'; cases hd'
          · rw [List.getElem?_set_ne e1] at hd'; exact ⟨d', hd', hdl⟩
        · obtain ⟨q1, q2⟩ := he.new j n' rw d hj hn' hd
          refine ⟨q1, ?_⟩
          rcases q2 with ⟨q, M1, c1, q3, q4, q5⟩ | q2
          · left
            by_cases e1 : ii = q
            · subst e1; rw [List.getElem?_set_self (getElem?_lt hbs)] at q4; cases q4
            · rw [List.getElem?_set_ne e1] at q4; exact ⟨q, M1, c1, q3, q4, q5⟩
          · exact .inr q2
        · rcases he.zn j n' rw with q | ⟨q, M1, c1, q3, q4, q5⟩ | q
          · exact .inl q
          · refine .inr (.inl ?_)
            by_cases e1 : ii = q
            · subst e1; rw [List.getElem?_set_self (getElem?_lt hbs)] at q4; cases q4
            · rw [List.getElem?_set_ne e1] at q4; exact ⟨q, M1, c1, q3, q4, q5⟩
          · exact .inr (.inr q)
    · -- onto nil
      rename_i dd hs heq
      cases heq
      split at e
      rotate_left
      · cases e
      rename_i hbd
      simp only [Bool.and_eq_true, boundB, decide_eq_true_eq] at hbd
      obtain ⟨⟨hb1, hb2⟩, hes⟩ := hbd
      split at e
      · rename_i hm
        simp only [decide_eq_true_eq] at hm
        subst hm
        refine ⟨_, _, e, wrap fun μ a b w ha hb' hr => ?_⟩
        rw [hs] at ha
        rw [hx] at hb'
        cases ha
        obtain ⟨mm, ad, cc, hmm, rfl, _⟩ := hb'
        refine ⟨.slice none 0 0, w, ?_, μ, Ev.refl hr, rfl⟩
        simp [Builtin.append_, run_underlying rJ.under, sizeOf, typeInfo, rI.info, Builtin.lenOf, Builtin.firstCells, loadCells, loadCellsFrom]
      · rename_i hm
        simp only [decide_eq_false_iff_not] at hm
        refine ⟨_, _, e, wrap fun μ a b w ha hb' hr => ?_⟩
        rw [hs] at ha
        rw [hx] at hb'
        cases ha
        obtain ⟨ad, cc, news, rfl, hn1, hn2, hn3, hn4⟩ := src_cells hr hb hfit hb'
        have hrun := run_append_nil (P := P) w st o.type el i z rJ.under rI.info rI.zero ad m cc news (by rw [rI.size]; exact hn1) hn2 (by omega) (by omega) (by rw [rI.bytes]; omega)
        have hge := grownCap_ge w m 0 el
        have hgm := grownCap_le_maxLen w m 0 el (by unfold maxLen; omega)
        refine ⟨_, _, hrun, goes_drew (n := 1) hr (goes_sl (hr.drewN 1) _ el _ (fun p y hy => ?_) m _ hge hgm ?_)⟩
        · obtain ⟨u, h3, h4⟩ := hn3 p y hy
          refine ⟨u, ?_, h4⟩
          have := getElem?_lt h3
          rw [Array.getElem?_append_left (by simpa using this)]
          simpa using h3
        · rw [hes]
          simp only [Array.size_append, List.size_toArray, size_zeroCells, hzl, hn1, ← Nat.add_mul]
          congr 1
          omega
    · -- onto an empty slice without room
      rename_i dd hs heq
      cases heq
      split at e
      rotate_left
      · cases e
      rename_i hbd
      simp only [Bool.and_eq_true, boundB, decide_eq_true_eq] at hbd
      obtain ⟨⟨hb1, hb2⟩, hes⟩ := hbd
      split at e
      · rename_i hm
        simp only [decide_eq_true_eq] at hm
        subst hm
        refine ⟨_, _, e, wrap fun μ a b w ha hb' hr => ?_⟩
        rw [hs] at ha
        rw [hx] at hb'
        obtain ⟨ad0, rfl⟩ := ha
        obtain ⟨mm, ad, cc, hmm, rfl, _⟩ := hb'
        refine ⟨.slice (some ad0) 0 0, w, ?_, μ, Ev.refl hr, ⟨ad0, rfl⟩⟩
        simp [Builtin.append_, run_underlying rJ.under, sizeOf, typeInfo, rI.info, Builtin.lenOf, Builtin.firstCells, loadCells, loadCellsFrom, storeCells]
      · rename_i hm
        simp only [decide_eq_false_iff_not] at hm
        refine ⟨_, _, e, wrap fun μ a b w ha hb' hr => ?_⟩
        rw [hs] at ha
        rw [hx] at hb'
        obtain ⟨ad0, rfl⟩ := ha
        obtain ⟨ad, cc, news, rfl, hn1, hn2, hn3, hn4⟩ := src_cells hr hb hfit hb'
        have hrun := run_append_grow (P := P) w st o.type el i z rJ.under rI.info rI.zero ad0 0 0 [] (by simp) (fun j v hj => by simp at hj) ad m cc news (by rw [rI.size]; exact hn1) hn2 (by omega) (by omega) (growslice_fits (by omega) (by rw [rI.bytes, Nat.zero_add]; exact hb2))
        have hge := grownCap_ge w (0 + m) 0 el
        have hgm := grownCap_le_maxLen w (0 + m) 0 el (by unfold maxLen; omega)
        refine ⟨_, _, hrun, goes_drew (n := 1) hr ?_⟩
        rw [Nat.zero_add] at *
        refine goes_sl (hr.drewN 1) _ el _ (fun p y hy => ?_) m _ hge hgm ?_
        · obtain ⟨u, h3, h4⟩ := hn3 p y hy
          refine ⟨u, ?_, h4⟩
          have := getElem?_lt h3
          rw [show ([] : List Value).toArray = #[] from rfl, Array.empty_append, Array.getElem?_append_left (by simpa using this)]
          simpa using h3
        · rw [hes]
          simp only [Array.size_append, List.size_toArray, List.length_nil, Nat.zero_add, size_zeroCells, hzl, hn1, ← Nat.add_mul]
          congr 1
          omega
    · cases e
  · -- nil is appended
    rename_i hx
    have hnone : ∀ {μ : Mu} {b : Value}, RepV μ (ev t x) b → b = .slice none 0 0 := fun h => by rw [hx] at h; exact h
    dsimp only at e
    split at e
    · rename_i hs heq
      refine ⟨_, _, e, wrap fun μ a b w ha hb' hr => ?_⟩
      cases hnone hb'
      rw [hs] at ha
      obtain ⟨M0, ad0, cap, hM0, rfl, hncap, rest⟩ := ha
      exact ⟨_, w, append_none st o.type el i rJ.under rI.info _ _ _ hncap _, μ, Ev.refl hr, ⟨M0, ad0, cap, hM0, rfl, hncap, rest⟩⟩
    · rename_i hs heq
      refine ⟨_, _, e, wrap fun μ a b w ha hb' hr => ?_⟩
      cases hnone hb'
      rw [hs] at ha
      cases ha
      exact ⟨_, w, append_none st o.type el i rJ.under rI.info _ _ _ (Nat.le_refl _) _, μ, Ev.refl hr, rfl⟩
    · rename_i hs heq
      refine ⟨_, _, e, wrap fun μ a b w ha hb' hr => ?_⟩
      cases hnone hb'
      rw [hs] at ha
      obtain ⟨ad0, rfl⟩ := ha
      exact ⟨_, w, append_none st o.type el i rJ.under rI.info _ _ _ (Nat.le_refl _) _, μ, Ev.refl hr, ⟨ad0, rfl⟩⟩
    · rename_i heq; cases heq
    · rename_i heq; cases heq
    · rename_i heq; cases heq
    · cases e
  · rename_i hx
    have hnone : ∀ {μ : Mu} {b : Value}, RepV μ (ev t x) b → ∃ ad, b = .slice (some ad) 0 0 := fun h => by rw [hx] at h; exact h
    dsimp only at e
    split at e
    · rename_i hs heq
      refine ⟨_, _, e, wrap fun μ a b w ha hb' hr => ?_⟩
      obtain ⟨adx, rfl⟩ := hnone hb'
      rw [hs] at ha
      obtain ⟨M0, ad0, cap, hM0, rfl, hncap, rest⟩ := ha
      exact ⟨_, w, append_none st o.type el i rJ.under rI.info _ _ _ hncap _, μ, Ev.refl hr, ⟨M0, ad0, cap, hM0, rfl, hncap, rest⟩⟩
    · rename_i hs heq
      refine ⟨_, _, e, wrap fun μ a b w ha hb' hr => ?_⟩
      obtain ⟨adx, rfl⟩ := hnone hb'
      rw [hs] at ha
      cases ha
      exact ⟨_, w, append_none st o.type el i rJ.under rI.info _ _ _ (Nat.le_refl _) _, μ, Ev.refl hr, rfl⟩
    · rename_i hs heq
      refine ⟨_, _, e, wrap fun μ a b w ha hb' hr => ?_⟩
      obtain ⟨adx, rfl⟩ := hnone hb'
      rw [hs] at ha
      obtain ⟨ad0, rfl⟩ := ha
      exact ⟨_, w, append_none st o.type el i rJ.under rI.info _ _ _ (Nat.le_refl _) _, μ, Ev.refl hr, ⟨ad0, rfl⟩⟩
    · rename_i heq; cases heq
    · rename_i heq; cases heq
    · rename_i heq; cases heq
    · cases e
  · cases e

end
end Go.Proofs.Ytlopdogjdfeikaa.Ab
