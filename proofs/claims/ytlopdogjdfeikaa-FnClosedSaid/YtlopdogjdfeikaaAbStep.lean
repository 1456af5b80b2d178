/- One operation that writes or makes memory: the small machine's step is the model's. Only lemmas. -/
import Derived.Test.YtlopdogjdfeikaaAbLoud
namespace Go.Proofs.Ytlopdogjdfeikaa.Ab
set_option linter.unusedVariables false
set_option linter.unusedSimpArgs false
open Go

/-- The operation, from whatever frame and world that the slots and the heap speak of, goes on to a value that 'v' speaks of, and to a heap 'h''. -/
def OpOk (P : Program) (o : Oper) (t : List V) (h : H) (v : V) (h' : H) : Prop :=
  ∀ (μ : Mu) (a : Act) (w : World), (∀ x ∈ o.op.operands.toList, RepV μ (ev t x) (a.eval x)) → Rel μ h w →
    ∀ (K : Act → World → Prop) (Q : Exit → Act → World → Prop), (∀ cv w', Goes μ h w v h' cv w' → K (a.put o.dst cv) w') → o.wp P a w K Q

section
variable {P : Program} {R : Type} {r : R}

theorem OpOk.of_value {o : Oper} {t : List V} {h h' : H} {v : V}
    (hh : ∀ (μ : Mu) (ρ : Operand → Value) (w : World), (∀ x ∈ o.op.operands.toList, RepV μ (ev t x) (ρ x)) → Rel μ h w → ∃ cv w', (execOp ρ o).run P w = .ok (.value cv) w' ∧ Goes μ h w v h' cv w') :
    OpOk P o t h v h' := by
  intro μ a w hρ hr K Q hK
  obtain ⟨cv, w', h1, h2⟩ := hh μ a.eval w hρ hr
  unfold Oper.wp
  rw [h1]
  exact hK cv w' h2

theorem quiet_ok {ty : Ty} (hty : TyOk P ty) {t : List V} {h : H} {o : Oper} {K : V → Option R} (e : quietK ty t h o.op K = some r) : ∃ v, K v = some r ∧ ∀ h2, Agree h h2 → OpOk P o t h2 v h2 := by
  obtain ⟨v, h1, h2⟩ := quiet_run hty rfl e
  refine ⟨v, h1, fun h2' ha2 => OpOk.of_value fun μ ρ w hρ hr => ?_⟩
  obtain ⟨cv, n, h3, h4⟩ := h2 μ ρ hρ w h2' ha2 hr
  exact ⟨cv, w.drewN n, h3, μ, Ev.drewN hr n, h4⟩

theorem new_at {μ : Mu} {m : M} {h : H} (hl : μ.l.length = h.length) : (μ.app [m]).l[h.length]? = some m := by rw [← hl]; simp

theorem goes_ptr {μ : Mu} {h : H} {w : World} (hr : Rel μ h w) (c : C) (el : TypeId) (cur : Array Value)
    (hc : ∀ j x, c.get? j = some x → ∃ cv, cur[j]? = some cv ∧ RepA μ x cv) :
    Goes μ h w (.ptr h.length 0) (h ++ [.at true c]) (.pointer (some ⟨w.heap.size, 0, none⟩)) (w.alloc (.cells cur el)) :=
  ⟨_, Ev.alloc hr c el cur hc, ⟨_, new_at hr.len, rfl⟩⟩

theorem goes_sl {μ : Mu} {h : H} {w : World} (hr : Rel μ h w) (c : C) (el : TypeId) (cur : Array Value)
    (hc : ∀ j x, c.get? j = some x → ∃ cv, cur[j]? = some cv ∧ RepA μ x cv) (n k : Nat) (hn : n ≤ k) (hk : k ≤ maxLen) (hs : k * c.esz = cur.size) :
    Goes μ h w (.sl h.length 0 n) (h ++ [.at true c]) (.slice (some ⟨w.heap.size, 0, none⟩) n k) (w.alloc (.cells cur el)) :=
  ⟨_, Ev.alloc hr c el cur hc, ⟨_, _, k, new_at hr.len, rfl, hn, hk, fun _ => by simp, fun _ _ => hs⟩⟩

theorem goes_drew {μ : Mu} {h h' : H} {w w' : World} {v : V} {cv : Value} {n : Nat} (hr : Rel μ h w) (g : Goes μ h (w.drewN n) v h' cv w') : Goes μ h w v h' cv w' := by
  obtain ⟨μ', e, hv⟩ := g
  exact ⟨μ', (Ev.drewN hr n).trans e, hv⟩

theorem alloc_ok {ty : Ty} (hty : TyOk P ty) {t : List V} {h : H} {o : Oper} {e : TypeId} {I : TyI} (ho : o.op = .alloc e) (hI : ty e = some I) : OpOk P o t h (.ptr h.length 0) (h ++ [.at true (.as 1 I.zero)]) := by
  refine OpOk.of_value fun μ ρ w hρ hr => ?_
  obtain ⟨_, z, d, rI⟩ := row hty hI
  have hrun : (Instr.alloc e true (.tuple #[])).run P w = .ok (.pointer (some ⟨w.heap.size, 0, none⟩)) (w.alloc (.cells z.cells e)) := by
    simp only [Instr.alloc, Sem.run_bind, rI.run_zero, Result.andThen, newVar, newRow, newObj]
    rfl
  refine ⟨.pointer (some ⟨w.heap.size, 0, none⟩), w.alloc (.cells z.cells e), ?_, goes_ptr hr _ e z.cells fun j x hx => ?_⟩
  · unfold execOp; rw [ho]; simp only [Sem.run_bind, hrun, Result.andThen]; rfl
  · rw [C.get?_as] at hx
    obtain ⟨cv, h1, h2⟩ := (rI.rep μ).get hx
    exact ⟨cv, by rw [← Array.getElem?_toList]; exact h1, h2⟩

theorem vcells_rep {μ : Mu} {v : V} {l : List A} {cv : Value} (h : vcells v = some l) (hv : RepV μ v cv) : RepAs μ l cv.cells.toList := by
  unfold vcells at h
  split at h
  · cases h
    have h1 : RepA μ _ cv := hv
    rw [h1.one.2]
    exact ⟨h1, trivial⟩
  · cases h
    obtain ⟨cs, rfl, h2⟩ := hv
    exact h2
  · cases h

theorem boxC_get {l : List A} {j : Nat} {x : A} (h : (boxC l).get? j = some x) : l[j]? = some x := by
  unfold boxC at h
  split at h
  · rename_i k n r _
    split at h
    · rename_i m hm
      have e := intsOf_get hm
      unfold C.get? C.getK at h
      rw [e]
      simp only at h
      split at h <;> simp_all
    · rwa [C.get?_as] at h
  · rwa [C.get?_as] at h
theorem box_ok {t : List V} {h : H} {o : Oper} {e : TypeId} {x : Operand} {l : List A} (ho : o.op = .box e x) (hl : vcells (ev t x) = some l) : OpOk P o t h (.ptr h.length 0) (h ++ [.at true (boxC l)]) := by
  refine OpOk.of_value fun μ ρ w hρ hr => ?_
  have hx := vcells_rep hl (hρ x (by rw [ho]; simp [Op.operands]))
  refine ⟨.pointer (some ⟨w.heap.size, 0, none⟩), w.alloc (.cells (ρ x).cells e), ?_, goes_ptr hr _ e (ρ x).cells fun j y hy => ?_⟩
  · unfold execOp; rw [ho]; simp only [Instr.box, newVar, newRow, newObj, Sem.run_bind]; rfl
  · obtain ⟨cv, h1, h2⟩ := hx.get (boxC_get hy)
    exact ⟨cv, by rw [← Array.getElem?_toList]; exact h1, h2⟩

theorem map_range_zero (f : Nat → Value) : (Array.range 0).map f = #[] := by simp
theorem buildSlice_ok {ty : Ty} (hty : TyOk P ty) {t : List V} {h : H} {o : Oper} {bt e : TypeId} {J I : TyI} {len : Nat} {parts : Array (Nat × Operand)} {l : List A} {c : C}
    (ho : o.op = .buildSlice bt len parts) (hJ : ty bt = some J) (hJd : J.d = .slice e) (hI : ty e = some I)
    (hd : len * I.size ≤ 16777216 ∧ 0 < I.size ∧ I.zero.length = I.size)
    (hl : fillA (fun i => some (i * I.size, I.size)) (List.replicate len I.zero).flatten (parts.toList.map fun p => (p.1, ev t p.2)) = some l) (hc : mkC I.zero l = some c) :
    OpOk P o t h (.sl h.length 0 len) (h ++ [.at true c]) := by
  refine OpOk.of_value fun μ ρ w hρ hr => ?_
  obtain ⟨_, z, d, rI⟩ := row hty hI
  obtain ⟨_, _, dJ, rJ⟩ := row hty hJ
  have := desc_slice rJ.desc hJd
  subst this
  obtain ⟨hd1, hd2, hd3⟩ := hd
  have hz := zero_reps (μ := μ) (rI.rep μ) (by omega) len
  rw [hd3] at hz
  have toParts : (parts.map fun (i, x) => (i, ρ x)).toList = parts.toList.map fun p => (p.1, ρ p.2) := by simp
  obtain ⟨cs, h1, h2⟩ := fill_rep (fun _ _ h => h) (μ := μ) (qs := parts.toList.map fun p => (p.1, ρ p.2)) hl hz (by simp) (by
    have := RepVs_of (xs := parts.toList.map (·.2)) (t := t) (ρ := ρ) (μ := μ) (fun x hx => hρ x (by rw [ho]; simpa [Op.operands] using hx))
    simp only [List.map_map] at this ⊢
    exact this)
  obtain ⟨c1, c2, c3⟩ := mkC_spec hc
  have hlen : cs.length = len * I.size := by
    have h4 := h2.len
    have h5 : l.length = len * I.size := by
      have : ∀ {ps : List (Nat × V)} {cells l : List A}, fillA (fun i => some (i * I.size, I.size)) cells ps = some l → l.length = cells.length := by
        intro ps
        induction ps with
        | nil => intro cells l e; cases e; rfl
        | cons p ps ih =>
          intro cells l e
          obtain ⟨i, v⟩ := p
          simp only [fillA] at e
          split at e
          · split at e
            · have := ih e; simpa using this
            · cases e
          · split at e
            · rename_i hh
              have := ih e
              rw [this]
              simp only [List.length_append, List.length_take, List.length_drop]
              omega
            · cases e
          · cases e
      rw [this hl]
      simp [hd3]
    rw [h4, h5]
  have hle : len ≤ maxLen := by
    have : len ≤ len * I.size := Nat.le_mul_of_pos_right _ hd2
    unfold maxLen; omega
  refine ⟨.slice (some ⟨w.heap.size, 0, none⟩) len len, w.alloc (.cells ⟨cs⟩ e), ?_, goes_sl hr c e ⟨cs⟩ (fun j x hx => ?_) len len (Nat.le_refl _) hle (by rw [c1, hd3]; exact hlen.symm)⟩
  · have h1' : Instr.fill (fun i => some (i * I.size, I.size)) ((Array.range (len * I.size)).map (z.cells[· % z.cells.size]!)) (parts.toList.map fun p => (p.1, ρ p.2)) = some ⟨cs⟩ := h1
    have hnew : ∀ w, (newRow e ⟨cs⟩).run P w = .ok ⟨w.heap.size, 0, none⟩ (w.alloc (.cells ⟨cs⟩ e)) := fun w => rfl
    unfold execOp
    rw [ho]
    simp only [Instr.buildSlice, Sem.run_bind, run_underlying rJ.under, Result.andThen, rI.run_sizeOf]
    rw [if_neg (by omega)]
    by_cases h0 : len * I.size = 0
    · have h1'' : Instr.fill (fun i => some (i * I.size, I.size)) ((Array.range (len * I.size)).map ((#[] : Array Value)[· % (#[] : Array Value).size]!)) (parts.toList.map fun p => (p.1, ρ p.2)) = some ⟨cs⟩ := by
        rw [h0, map_range_zero] at h1' ⊢
        exact h1'
      rw [if_pos h0]
      simp only [Sem.run_bind, Sem.run_pure, Result.andThen, toParts, h1'', hnew]
    · rw [if_neg h0]
      simp only [Sem.run_bind, rI.run_zero, Sem.run_pure, Result.andThen, toParts, h1', hnew]
  · obtain ⟨cv, h3, h4⟩ := h2.get (c3 j x hx)
    exact ⟨cv, by simpa using h3, h4⟩

theorem makeSlice_ok {ty : Ty} (hty : TyOk P ty) {t : List V} {h : H} {o : Oper} {mt e : TypeId} {J I : TyI} {x y : Operand} {k k' : IntKind} {n m : Int} {c : C}
    (ho : o.op = .makeSlice mt x y) (hJ : ty mt = some J) (hJd : J.d = .slice e) (hI : ty e = some I) (hx : ev t x = .int k n) (hy : ev t y = .int k' m)
    (hd : 0 ≤ n ∧ n ≤ m ∧ m ≤ 9223372036854775807 ∧ m.toNat * I.bytes ≤ 140737488355328 ∧ 0 < I.size ∧ I.zero.length = I.size) (hc : zeros I.zero n.toNat = some c) :
    OpOk P o t h (.sl h.length 0 n.toNat) (h ++ [.at true c]) := by
  refine OpOk.of_value fun μ ρ w hρ hr => ?_
  obtain ⟨i, z, d, rI⟩ := row hty hI
  obtain ⟨_, _, dJ, rJ⟩ := row hty hJ
  have := desc_slice rJ.desc hJd
  subst this
  obtain ⟨hd1, hd2, hd3, hd4, hd5, hd6⟩ := hd
  have hx' := hρ x (by rw [ho]; simp [Op.operands])
  have hy' := hρ y (by rw [ho]; simp [Op.operands])
  rw [hx] at hx'
  rw [hy] at hy'
  have ex := repInt hx'
  have ey := repInt hy'
  obtain ⟨c1, c2⟩ := zeros_spec (by omega) hc
  have hz := zero_cells (μ := μ) (rI.rep μ) (by omega) (m.toNat * I.size)
  refine ⟨.slice (some ⟨w.heap.size, 0, none⟩) n.toNat m.toNat, w.alloc (.cells ((Array.range (m.toNat * I.size)).map (z.cells[· % z.cells.size]!)) e), ?_,
    goes_sl hr c e _ (fun j x hx => ?_) n.toNat m.toNat (by omega) (by unfold maxLen; omega) (by rw [c1, hd6]; simp)⟩
  · have wn : IntKind.i64.wrap n = n := IntWalk.i64_in _ (by omega)
    have wm : IntKind.i64.wrap m = m := IntWalk.i64_in _ (by omega)
    have hb1 : ¬ ((I.bytes : Int) * m > 281474976710656) := by
      have hm0 : (m.toNat : Int) = m := Int.toNat_of_nonneg (by omega)
      have : ((I.bytes : Int) * m) = ((m.toNat * I.bytes : Nat) : Int) := by rw [Int.natCast_mul, hm0, Int.mul_comm]
      omega
    have hcond : ((decide (m < 0) || decide ((I.bytes : Int) * m > 2 ^ 48)) || decide (n < 0) || decide (n > m)) = false := by
      simp; omega
    have hroom : ∀ w, (askRoom (m.toNat * I.bytes)).run P w = .ok () w := by
      intro w
      unfold askRoom roomBytes
      rw [if_neg (by omega)]
      rfl
    have hnew : ∀ (cs : Array Value) w, (newRow e cs).run P w = .ok ⟨w.heap.size, 0, none⟩ (w.alloc (.cells cs e)) := fun _ w => rfl
    unfold execOp
    rw [ho]
    simp only [ex, ey, Instr.makeSlice, asInt, asIntOf, Sem.run_bind, run_underlying rJ.under, Result.andThen, Sem.run_pure, run_typeInfo _ rI.info, rI.bytes, wn, wm]
    rw [if_neg (by simp only [hcond]; simp)]
    simp only [Sem.run_bind, hroom, Result.andThen, rI.run_sizeOf]
    by_cases h0 : m.toNat * I.size = 0
    · rw [if_pos h0]
      simp only [Sem.run_bind, Sem.run_pure, Result.andThen, hnew, h0, map_range_zero]
    · rw [if_neg h0]
      simp only [Sem.run_bind, rI.run_zero, Sem.run_pure, Result.andThen, hnew]
  · obtain ⟨h1, h2⟩ := c2 j x hx
    refine hz j x h1 (Nat.lt_of_lt_of_le h2 ?_)
    rw [hd6]
    exact Nat.mul_le_mul_right _ (by omega)

end
end Go.Proofs.Ytlopdogjdfeikaa.Ab
