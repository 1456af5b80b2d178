/- Structs and arrays built of parts; and all quiet operations together. Only lemmas. -/
import Derived.Test.YtlopdogjdfeikaaAbOps3
namespace Go.Proofs.Ytlopdogjdfeikaa.Ab
set_option linter.unusedVariables false
set_option linter.unusedSimpArgs false
open Go

theorem foldl_lay (off : Nat) : ∀ (cs : List Value) (j : Nat) (cells : Array Value), off + j + cs.length ≤ cells.size →
    ((cs.zipIdx j).foldl (fun (acc : Array Value) (p : Value × Nat) => acc.setIfInBounds (off + p.2) p.1) cells).toList =
      cells.toList.take (off + j) ++ cs ++ cells.toList.drop (off + j + cs.length)
  | [], j, cells, _ => by simp
  | c :: cs, j, cells, h => by
    simp only [List.length_cons] at h
    simp only [List.zipIdx_cons, List.foldl_cons]
    rw [foldl_lay off cs (j + 1) _ (by simp; omega)]
    simp only [Array.toList_setIfInBounds, List.length_cons]
    have h1 : off + (j + 1) = off + j + 1 := by omega
    have h2 : off + j + 1 + cs.length = off + j + (cs.length + 1) := by omega
    rw [h1, h2, List.take_set, List.drop_set_of_lt (by omega)]
    have hlt : off + j < cells.toList.length := by simp; omega
    rw [List.take_succ_eq_append_getElem hlt, List.set_append_right _ _ (by simp; omega), List.length_take, Nat.min_eq_left (by omega), Nat.sub_self]
    simp

theorem fill_rep {μ : Mu} {place place' : Nat → Option (Nat × Nat)} (hpl : ∀ i p, place i = some p → place' i = some p) : ∀ {ps : List (Nat × V)} {qs : List (Nat × Value)} {cells l : List A} {cs : List Value},
    fillA place cells ps = some l → RepAs μ cells cs → ps.map (·.1) = qs.map (·.1) → RepVs μ (ps.map (·.2)) (qs.map (·.2)) →
    ∃ cs', Instr.fill place' ⟨cs⟩ qs = some ⟨cs'⟩ ∧ RepAs μ l cs'
  | [], [], cells, l, cs, e, h, _, _ => by cases e; exact ⟨cs, rfl, h⟩
  | (i, v) :: ps, (i', cv) :: qs, cells, l, cs, e, h, hi, hv => by
    simp only [List.map_cons, List.cons.injEq] at hi
    obtain ⟨rfl, hi⟩ := hi
    obtain ⟨hv1, hv2⟩ := hv
    simp only [fillA] at e
    split at e
    · rename_i off x hp
      split at e
      · rename_i hlt
        have ha : RepA μ x cv := hv1
        have hc := ha.one.2
        obtain ⟨cs', h1, h2⟩ := fill_rep hpl (qs := qs) e (h.set ha off) hi hv2
        refine ⟨cs', ?_, h2⟩
        have hl := h.len
        simp only [Instr.fill, hpl _ _ hp, hc]
        simp only [List.size_toArray, List.length_cons, List.length_nil, Nat.zero_add, ne_eq, not_true, decide_false, Bool.false_or]
        rw [if_neg (by simp; omega)]
        rw [← h1]
        simp
      · cases e
    · rename_i off n m hp
      split at e
      · rename_i hlt
        obtain ⟨ds, rfl, hd⟩ := hv1
        have hl := h.len
        have hdl := hd.len
        obtain ⟨h3, h4⟩ := hlt
        obtain ⟨cs', h1, h2⟩ := fill_rep hpl (qs := qs) e (((h.take off).append hd).append (h.drop (off + n))) hi hv2
        refine ⟨cs', ?_, h2⟩
        have hcond : (decide ((Value.agg ⟨ds⟩).cells.size ≠ n) || decide (off + (Value.agg ⟨ds⟩).cells.size > (⟨cs⟩ : Array Value).size)) = false := by
          show (decide (ds.length ≠ n) || decide (off + ds.length > cs.length)) = false
          simp; omega
        simp only [Instr.fill, hpl _ _ hp]
        rw [hcond]
        simp only [Bool.false_eq_true, if_false]
        rw [← h1]
        congr 1
        apply Array.toList_inj.1
        have := foldl_lay off ds 0 ⟨cs⟩ (by simp; omega)
        simp only [Nat.add_zero] at this
        rw [show off + n = off + ds.length by omega]
        have hcells : (Value.agg ⟨ds⟩).cells = ⟨ds⟩ := rfl
        rw [hcells]
        simpa using this
      · cases e
    · cases e
  | [], _ :: _, _, _, _, _, _, hi, _ => by simp at hi
  | _ :: _, [], _, _, _, _, _, hi, _ => by simp at hi

section
variable {P : Program} {R : Type} {K : V → Option R} {r : R}

theorem mapM_sizes {ty : Ty} (hty : TyOk P ty) : ∀ (gs : List Field) (w : World), (∀ g ∈ gs, ∃ I, ty g.type = some I) →
    ∃ ps : List (Nat × Nat), (gs.mapM fun (f : Field) => do pure (f.offset, ← sizeOf f.type)).run P w = .ok ps w ∧ ps.length = gs.length ∧
      ∀ (i : Nat) (g : Field) (I : TyI), gs[i]? = some g → ty g.type = some I → ps[i]? = some (g.offset, I.size)
  | [], w, _ => ⟨[], by simp, rfl, fun i g I h => by simp at h⟩
  | g :: gs, w, h => by
    obtain ⟨I, hI⟩ := h g (List.mem_cons_self ..)
    obtain ⟨_, _, _, rI⟩ := row hty hI
    obtain ⟨ps, h1, h2, h3⟩ := mapM_sizes hty gs w (fun g hg => h g (List.mem_cons_of_mem _ hg))
    refine ⟨(g.offset, I.size) :: ps, ?_, by simp [h2], fun i g' I' hi hI' => ?_⟩
    · simp only [List.mapM_cons, Sem.run_bind, rI.run_sizeOf, Result.andThen, Sem.run_pure, h1]
    · cases i with
      | zero => simp at hi; subst hi; rw [hI] at hI'; cases hI'; rfl
      | succ i => simp at hi; simpa using h3 i g' I' hi hI'

theorem RepVs_of {μ : Mu} {t : List V} {ρ : Operand → Value} : ∀ {xs : List Operand}, (∀ o ∈ xs, RepV μ (ev t o) (ρ o)) → RepVs μ (xs.map (ev t)) (xs.map ρ)
  | [], _ => trivial
  | x :: xs, h => ⟨h x (List.mem_cons_self ..), RepVs_of fun o ho => h o (List.mem_cons_of_mem _ ho)⟩

theorem build_run {ty : Ty} (hty : TyOk P ty) {t : List V} {h : H} {bt : TypeId} {parts : Array (Nat × Operand)} (e : quietK ty t h (.build bt parts) K = some r) :
    ∃ v, K v = some r ∧ ∀ (μ : Mu) (ρ : Operand → Value), (∀ o ∈ parts.toList.map (·.2), RepV μ (ev t o) (ρ o)) → ∀ (w : World), Gives P (Instr.build bt (parts.map fun (i, x) => (i, ρ x))) μ v w := by
  have toParts : ∀ ρ : Operand → Value, (parts.map fun (i, x) => (i, ρ x)).toList = parts.toList.map fun p => (p.1, ρ p.2) := fun ρ => by simp
  simp only [quietK] at e
  split at e
  · rename_i zero fs ht
    obtain ⟨_, z, d, rt⟩ := row hty ht
    obtain ⟨gs, rfl, hgs⟩ := desc_struct rt.desc rfl
    split at e
    · cases e
    · rename_i hall
      split at e
      · rename_i l hl
        refine ⟨_, e, fun μ ρ ho w => ?_⟩
        have hall' : ∀ g ∈ gs.toList, ∃ I, ty g.type = some I := by
          intro g hg
          rw [List.all_eq_true] at hall
          have := hall (g.offset, g.type) (by rw [hgs]; exact List.mem_map.2 ⟨g, hg, rfl⟩)
          exact Option.isSome_iff_exists.1 this
        obtain ⟨ps, h3, h4, h5⟩ := mapM_sizes hty gs.toList w hall'
        have hpl : ∀ i p, placeOf ty fs i = some p → ps[i]? = some p := by
          intro i p hp
          unfold placeOf at hp
          split at hp
          · rename_i o e' hf
            split at hp
            · rename_i I hI
              cases hp
              rw [hgs] at hf
              simp only [List.getElem?_map, Option.map_eq_some_iff] at hf
              obtain ⟨g, hg, hgg⟩ := hf
              cases hgg
              exact h5 i g I (by simpa using hg) hI
            · cases hp
          · cases hp
        obtain ⟨cs, h1, h2⟩ := fill_rep (place' := fun i => ps[i]?) hpl (μ := μ) (qs := parts.toList.map fun p => (p.1, ρ p.2)) hl (rt.rep μ) (by simp) (by
          have := RepVs_of ho
          simp only [List.map_map] at this ⊢
          exact this)
        refine ⟨.agg ⟨cs⟩, 0, ?_, ⟨cs, rfl, h2⟩⟩
        simp only [Instr.build, Sem.run_bind, rt.run_zero, Result.andThen, run_underlying rt.under, Array.mapM_eq_mapM_toList, Sem.run_map, h3]
        rw [toParts]
        have h1' : Instr.fill (fun x => ps[x]?) z.cells (parts.toList.map fun p => (p.1, ρ p.2)) = some ⟨cs⟩ := h1
        simp [h1', World.drewN]
      · cases e
  · rename_i zero n el ht
    obtain ⟨_, z, d, rt⟩ := row hty ht
    have := desc_array rt.desc rfl
    subst this
    split at e
    · rename_i I hI
      obtain ⟨_, _, _, rI⟩ := row hty hI
      split at e
      · rename_i l hl
        refine ⟨_, e, fun μ ρ ho w => ?_⟩
        obtain ⟨cs, h1, h2⟩ := fill_rep (fun _ _ h => h) (μ := μ) (qs := parts.toList.map fun p => (p.1, ρ p.2)) hl (rt.rep μ) (by simp) (by
          have := RepVs_of ho
          simp only [List.map_map] at this ⊢
          exact this)
        refine ⟨.agg ⟨cs⟩, 0, ?_, ⟨cs, rfl, h2⟩⟩
        simp only [Instr.build, Sem.run_bind, rt.run_zero, Result.andThen, run_underlying rt.under, rI.run_sizeOf]
        rw [toParts]
        simp [h1, World.drewN]
      · cases e
    · cases e
  · cases e

end
end Go.Proofs.Ytlopdogjdfeikaa.Ab
