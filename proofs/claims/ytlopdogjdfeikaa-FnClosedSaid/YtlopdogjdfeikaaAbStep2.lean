/- Stores and appends: the small machine's step is the model's. Only lemmas. -/
import Derived.Test.YtlopdogjdfeikaaAbStep
namespace Go.Proofs.Ytlopdogjdfeikaa.Ab
set_option linter.unusedVariables false
set_option linter.unusedSimpArgs false
open Go

section
variable {P : Program} {R : Type} {r : R}

/-- Cells laid over cells of one's own block. -/
theorem storeCells_ev {μ : Mu} {h : H} {w : World} {i : Nat} {m : M} {c c' : C} (hr : Rel μ h w) (hm : μ.l[i]? = some m) (hb : h[i]? = some (.at true c)) {l : List A} {vs : List Value} {o : Nat}
    (hv : RepAs μ l vs) (hes : c'.esz = c.esz) (hfit : o + l.length ≤ m.size)
    (hc : ∀ j y, c'.get? j = some y → (o ≤ j ∧ l[j - o]? = some y) ∨ ((j < o ∨ o + l.length ≤ j) ∧ c.get? j = some y)) :
    ∃ w', (storeCells ⟨m.blk, m.off + o, none⟩ vs 0).run P w = .ok () w' ∧ Ev μ h w μ (h.set i (.at true c')) w' := by
  obtain ⟨ho1, ho2, ho3, cur, hcur, hsz⟩ := hr.own i m c hm hb
  have hl := hv.len
  have hone : ∀ v ∈ vs, v.oneCell' = true := by
    have : ∀ {l : List A} {vs : List Value}, RepAs μ l vs → ∀ v ∈ vs, v.oneCell' = true := by
      intro l
      induction l with
      | nil => intro vs h; cases vs with | nil => intro v hv; cases hv | cons _ _ => exact h.elim
      | cons x l ih =>
        intro vs h
        cases vs with
        | nil => exact h.elim
        | cons v vs =>
          intro u hu
          cases hu with
          | head => exact h.1.one.1
          | tail _ hu => exact ih h.2 u hu
    exact this hv
  have hst := run_storeCells_at P m.blk o m.el vs 0 cur w hcur (by omega) hone
  simp only [Nat.add_zero] at hst
  have hst' : (storeCells ⟨m.blk, m.off + o, none⟩ vs 0).run P w = .ok () (w.setRow m.blk (cur.toList.take o ++ vs ++ cur.toList.drop (o + vs.length)).toArray) := by rw [ho2, Nat.zero_add]; exact hst
  refine ⟨_, hst', Ev.set hr hm hb hes ⟨rfl, rfl, rfl, by simp, fun k _ hk => setRow_other w m.blk k _ hk⟩ (setRow_heap w m.blk cur _ m.el _ hcur) ?_ ?_⟩
  · simp; omega
  · intro j y hy
    rcases hc j y hy with ⟨h1, h2⟩ | ⟨h1, h2⟩
    · obtain ⟨cv, h3, h4⟩ := hv.get h2
      refine ⟨cv, ?_, h4⟩
      have hj : j - o < vs.length := getElem?_lt h3
      simp only [List.getElem?_toArray]
      rw [List.append_assoc, List.getElem?_append_right (by simp; omega), List.length_take]
      rw [Nat.min_eq_left (by simp; omega), List.getElem?_append_left hj]
      exact h3
    · obtain ⟨cv, h3, h4⟩ := hr.cell i m true c hm hb j y h2
      refine ⟨cv, ?_, h4⟩
      rw [ho2] at h3
      simp only [World.cell?, hcur, Nat.zero_add] at h3
      have h5 : cur.toList[j]? = some cv := by simpa using h3
      have hjl := getElem?_lt h5
      simp only [List.getElem?_toArray]
      rcases h1 with h1 | h1
      · rw [List.append_assoc, List.getElem?_append_left (by simp; omega), List.getElem?_take]
        simp [h1, h5]
      · rw [List.getElem?_append_right (by simp; omega), List.getElem?_drop]
        rw [show o + vs.length + (j - (cur.toList.take o ++ vs).length) = j by simp at hjl ⊢; omega]
        exact h5

/-- The block's length in the model is at least its length here. -/
theorem own_len {μ : Mu} {h : H} {w : World} {i : Nat} {m : M} {c : C} (hr : Rel μ h w) (hm : μ.l[i]? = some m) (hb : h[i]? = some (.at true c)) : c.len ≤ m.size := by
  obtain ⟨ho1, ho2, ho3, cur, hcur, hsz⟩ := hr.own i m c hm hb
  rcases Nat.eq_zero_or_pos c.len with h0 | h0
  · omega
  · obtain ⟨x, hx⟩ := C.get?_some (c := c) (j := c.len - 1) (by omega)
    obtain ⟨cv, h3, _⟩ := hr.cell i m true c hm hb _ x hx
    rw [ho2] at h3
    simp only [World.cell?, hcur, Nat.zero_add] at h3
    have : c.len - 1 < cur.size := by
      have h4 : cur[c.len - 1]? = some cv := by simpa using h3
      exact (Array.getElem?_eq_some_iff.1 h4).1
    omega

theorem store_ok {ty : Ty} (hty : TyOk P ty) {t : List V} {h : H} {o : Oper} {st : TypeId} {x y : Operand} {K : H → Option R} (ho : o.op = .store st x y)
    (e : storeK ty h st (ev t x) (ev t y) K = some r) : ∃ h', K h' = some r ∧ OpOk P o t h V.no h' := by
  unfold storeK at e
  split at e
  · rename_i I i oo hI hx
    obtain ⟨_, _, d, rI⟩ := row hty hI
    obtain ⟨rw, c, hb, e⟩ := hgetK_spec e
    split at e
    · cases e
    · have finish : ∀ (l : List A) (c' : C), vcells (ev t y) = some l → I.size = l.length → c'.esz = c.esz → oo + l.length ≤ c.len →
          (∀ j y, c'.get? j = some y → (oo ≤ j ∧ l[j - oo]? = some y) ∨ ((j < oo ∨ oo + l.length ≤ j) ∧ c.get? j = some y)) → OpOk P o t h V.no (h.set i (.at true c')) := by
        intro l c' hl hsz hes hfit hget μ a w hρ hr K Q hK
        have hxr := hρ x (by rw [ho]; simp [Op.operands])
        have hyr := hρ y (by rw [ho]; simp [Op.operands])
        rw [hx] at hxr
        obtain ⟨m, hm, hpx⟩ := hxr
        have hv := vcells_rep hl hyr
        have hlen := own_len hr hm hb
        obtain ⟨w', h1, h2⟩ := storeCells_ev (P := P) hr hm hb hv hes (by omega) hget
        have hcs : (a.eval y).cells.size = I.size := by
          have := hv.len
          rw [hsz, ← this]; simp
        have hrun : (Instr.storeAt st (a.eval x) (a.eval y)).run P w = .ok () w' := by
          rw [hpx]
          simp only [Instr.storeAt, Instr.sureAddr, Sem.run_bind, Sem.run_pure, Result.andThen, storeVar, rI.run_sizeOf, hcs]
          simp only [ne_eq, not_true, if_false]
          exact h1
        have hex : (execOp a.eval o).run P w = .ok .skip w' := by
          unfold execOp
          rw [ho]
          simp only [Sem.run_bind, hrun, Result.andThen]
          rfl
        unfold Oper.wp
        rw [hex]
        exact hK undef w' ⟨μ, h2, RepV.no μ⟩
      split at e
      · rename_i z hz
        split at e
        · rename_i hs
          obtain ⟨c', h1, h2, h3, h4, h5⟩ := setK_spec' e
          refine ⟨_, h1, finish [z] c' (by rw [hz]; rfl) hs h2 (by simp; omega) fun j u hu => ?_⟩
          rcases h5 j u hu with ⟨e1, e2⟩ | ⟨e1, e2⟩
          · subst e1; subst e2; exact .inl ⟨Nat.le_refl _, by simp⟩
          · exact .inr ⟨by simp; omega, e2⟩
        · cases e
      · rename_i l hz
        split at e
        · rename_i hs
          obtain ⟨c', h1, h2, h3, h4, h5⟩ := setNK_spec e
          have hpos := rI.pos
          refine ⟨_, h1, finish l c' (by rw [hz]; rfl) hs h2 ?_ h5⟩
          rcases h3 with h3 | h3
          · subst h3; simp at hs; omega
          · exact h3
        · cases e
      · cases e
  · cases e

end
end Go.Proofs.Ytlopdogjdfeikaa.Ab
