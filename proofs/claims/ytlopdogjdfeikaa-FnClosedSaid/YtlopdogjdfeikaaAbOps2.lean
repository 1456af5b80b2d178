/- The quiet operations, the second part: addresses, loads, slices, parts of structs and arrays. Only lemmas. -/
import Derived.Test.YtlopdogjdfeikaaAbOps
namespace Go.Proofs.Ytlopdogjdfeikaa.Ab
set_option linter.unusedVariables false
set_option linter.unusedSimpArgs false
open Go

theorem addr_add (b o n : Nat) : (⟨b, o, none⟩ : Addr).add n = ⟨b, o + n, none⟩ := by
  unfold Addr.add
  split
  · rename_i h; subst h; rfl
  · rfl

theorem RepAs.len {μ : Mu} : ∀ {l : List A} {cs : List Value}, RepAs μ l cs → cs.length = l.length
  | [], [], _ => rfl
  | _ :: _, _ :: _, h => by simp [RepAs.len h.2]
theorem RepAs.get {μ : Mu} : ∀ {l : List A} {cs : List Value}, RepAs μ l cs → ∀ {i : Nat} {x : A}, l[i]? = some x → ∃ cv, cs[i]? = some cv ∧ RepA μ x cv
  | [], [], _, _, _, h => by simp at h
  | a :: l, c :: cs, h, i, x, e => by
    cases i with
    | zero => simp at e; subst e; exact ⟨c, rfl, h.1⟩
    | succ i => simp at e; obtain ⟨cv, h1, h2⟩ := RepAs.get h.2 e; exact ⟨cv, by simpa using h1, h2⟩
theorem RepAs.drop {μ : Mu} : ∀ {l : List A} {cs : List Value} (n : Nat), RepAs μ l cs → RepAs μ (l.drop n) (cs.drop n)
  | _, _, 0, h => h
  | [], [], _ + 1, _ => trivial
  | _ :: _, _ :: _, n + 1, h => RepAs.drop n h.2
theorem RepAs.take {μ : Mu} : ∀ {l : List A} {cs : List Value} (n : Nat), RepAs μ l cs → RepAs μ (l.take n) (cs.take n)
  | _, _, 0, _ => by simp; trivial
  | [], [], _ + 1, _ => trivial
  | _ :: _, _ :: _, n + 1, h => ⟨h.1, RepAs.take n h.2⟩
theorem RepAs.append {μ : Mu} : ∀ {l m : List A} {cs ds : List Value}, RepAs μ l cs → RepAs μ m ds → RepAs μ (l ++ m) (cs ++ ds)
  | [], _, [], _, _, k => k
  | _ :: _, _, _ :: _, _, h, k => ⟨h.1, RepAs.append h.2 k⟩
theorem RepAs.set {μ : Mu} {x : A} {cv : Value} (hx : RepA μ x cv) : ∀ {l : List A} {cs : List Value} (n : Nat), RepAs μ l cs → RepAs μ (l.set n x) (cs.set n cv)
  | [], [], _, _ => trivial
  | _ :: _, _ :: _, 0, h => ⟨hx, h.2⟩
  | _ :: _, _ :: _, n + 1, h => ⟨h.1, RepAs.set hx n h.2⟩

theorem RepA.one {μ : Mu} {x : A} {cv : Value} (h : RepA μ x cv) : cv.oneCell' = true ∧ cv.cells = #[cv] := by
  cases x with
  | bool b => cases h; exact ⟨rfl, rfl⟩
  | int k n => cases h; exact ⟨rfl, rfl⟩
  | fl k b => obtain ⟨_, rfl, _⟩ := h; exact ⟨rfl, rfl⟩
  | cx k a b => obtain ⟨_, _, rfl, _⟩ := h; exact ⟨rfl, rfl⟩
  | ptr i o => obtain ⟨_, _, rfl⟩ := h; exact ⟨rfl, rfl⟩
  | sl i o n => obtain ⟨_, _, _, _, rfl, _⟩ := h; exact ⟨rfl, rfl⟩
  | nil => cases h; exact ⟨rfl, rfl⟩
  | sl0 => obtain ⟨_, rfl⟩ := h; exact ⟨rfl, rfl⟩
  | fn f => cases h; exact ⟨rfl, rfl⟩
  | ro i n => obtain ⟨_, _, ⟨_, rfl, _⟩ | ⟨_, rfl⟩⟩ := h <;> exact ⟨rfl, rfl⟩
  | dig v => obtain ⟨_, _, _, ⟨_, rfl⟩ | ⟨_, _, _, rfl, _⟩⟩ := h <;> exact ⟨rfl, rfl⟩
  | big v => obtain ⟨_, _, _, _, ⟨_, rfl⟩ | ⟨_, _, _, rfl, _⟩⟩ := h <;> exact ⟨rfl, rfl⟩
  | mp i => obtain ⟨_, _, rfl⟩ := h; exact ⟨rfl, rfl⟩

theorem getK_spec {R : Type} {c : C} {i : Nat} {K : A → Option R} {r : R} (e : c.getK i K = some r) : ∃ x, c.get? i = some x ∧ K x = some r := by
  unfold C.get? C.getK at *
  cases c <;> simp only at * <;> first | (cases e; done) | (split at e <;> first | (cases e; done) | exact ⟨_, by simp [*], e⟩)
theorem getNK_spec {R : Type} {c : C} {r : R} : ∀ {n i : Nat} {K : List A → Option R}, c.getNK i n K = some r →
    ∃ l, K l = some r ∧ l.length = n ∧ ∀ j x, l[j]? = some x → c.get? (i + j) = some x
  | 0, i, K, e => ⟨[], e, rfl, fun j x h => by simp at h⟩
  | n + 1, i, K, e => by
    obtain ⟨x, h1, h2⟩ := getK_spec e
    obtain ⟨l, h3, h4, h5⟩ := getNK_spec h2
    refine ⟨x :: l, h3, by simp [h4], fun j y hy => ?_⟩
    cases j with
    | zero => simp at hy; subst hy; exact h1
    | succ j => simp at hy; have := h5 j y hy; rwa [show i + (j + 1) = i + 1 + j by omega]
theorem hgetK_spec {R : Type} {h : H} {i : Nat} {K : Bool → C → Option R} {r : R} (e : hgetK h i K = some r) : ∃ rw c, h[i]? = some (.at rw c) ∧ K rw c = some r := by
  unfold hgetK at e
  split at e
  · exact ⟨_, _, ‹_›, e⟩
  · cases e

section
variable {P : Program} {R : Type} {K : V → Option R} {r : R}

theorem idxAddr_run {ty : Ty} (hty : TyOk P ty) {t : TypeId} {x i : V} (e : idxAddrK ty t x i K = some r) :
    ∃ v, K v = some r ∧ ∀ (μ : Mu) (a b : Value), RepV μ x a → RepV μ i b → ∀ (w : World), Gives P (Instr.indexAt t a b) μ v w := by
  unfold idxAddrK at e
  split at e
  · rename_i ht
    split at e
    · rename_i I hI
      split at e
      · rename_i hlt
        simp only [decide_eq_true_eq] at hlt
        refine ⟨_, e, fun μ a b hx hi w => ?_⟩
        obtain ⟨_, _, d, rt⟩ := row hty ht
        have := desc_slice rt.desc rfl
        subst this
        obtain ⟨_, _, _, rI⟩ := row hty hI
        cases repInt hi
        obtain ⟨m, ad, c, hm, rfl, _, _, had, _⟩ := hx
        have := had (.inl (by omega))
        subst this
        refine ⟨_, 0, ?_, ⟨m, hm, rfl⟩⟩
        simp [Instr.indexAt, asIntOf, run_underlying rt.under, hlt, rI.run_sizeOf, addr_add, World.drewN, Nat.add_assoc]
      · cases e
    · cases e
  · rename_i ht
    split at e
    · rename_i I hI
      split at e
      · rename_i hlt
        simp only [decide_eq_true_eq] at hlt
        refine ⟨_, e, fun μ a b hx hi w => ?_⟩
        obtain ⟨_, _, d, rt⟩ := row hty ht
        have := desc_array rt.desc rfl
        subst this
        obtain ⟨_, _, _, rI⟩ := row hty hI
        cases repInt hi
        obtain ⟨m, hm, rfl⟩ := hx
        refine ⟨_, 0, ?_, ⟨m, hm, rfl⟩⟩
        simp [Instr.indexAt, Instr.sureAddr, asIntOf, run_underlying rt.under, hlt, rI.run_sizeOf, addr_add, World.drewN, Nat.add_assoc]
      · cases e
    · cases e
  · rename_i ht
    split at e
    · rename_i I hI
      split at e
      · rename_i hlt
        simp only [decide_eq_true_eq] at hlt
        refine ⟨_, e, fun μ a b hx hi w => ?_⟩
        obtain ⟨_, _, d, rt⟩ := row hty ht
        have := desc_slice rt.desc rfl
        subst this
        obtain ⟨_, _, _, rI⟩ := row hty hI
        cases repInt hi
        obtain ⟨m, hm, ⟨c, rfl, _, _⟩ | ⟨h0, _⟩⟩ := hx
        · refine ⟨_, 0, ?_, ⟨m, hm, rfl⟩⟩
          simp [Instr.indexAt, asIntOf, run_underlying rt.under, hlt, rI.run_sizeOf, addr_add, World.drewN, Nat.add_assoc]
        · omega
      · cases e
    · cases e
  · cases e

theorem part_run {t : TypeId} {I : TyI} {i : TypeInfo} {z : Value} {d : TypeDesc} (hr : RowOk P t I i z d) {l : List A} {o : Nat} (e : partK I l o K = some r) :
    ∃ v, K v = some r ∧ ∀ (μ : Mu) (cs : List Value), RepAs μ l cs → ∀ (w : World), Gives P (part t ⟨cs⟩ o) μ v w := by
  unfold partK at e
  split at e
  · rename_i ha
    refine ⟨_, e, fun μ cs h w => ⟨.agg ⟨(cs.drop o).take I.size⟩, 0, ?_, ⟨_, rfl, (h.drop o).take _⟩⟩⟩
    simp only [part, Sem.run_bind, hr.run_isAgg, Result.andThen, ha, if_true, hr.run_sizeOf]
    simp [World.drewN, List.extract_eq_take_drop]
  · rename_i ha
    split at e
    · rename_i x hx
      refine ⟨_, e, fun μ cs h w => ?_⟩
      obtain ⟨cv, h1, h2⟩ := h.get hx
      refine ⟨cv, 0, ?_, h2⟩
      simp only [part, Sem.run_bind, hr.run_isAgg, Result.andThen, ha]
      simp [h1, World.drewN]
    · cases e

theorem idx_run {ty : Ty} (hty : TyOk P ty) {t : TypeId} {x i : V} (e : idxK ty t x i K = some r) :
    ∃ v, K v = some r ∧ ∀ (μ : Mu) (a b : Value), RepV μ x a → RepV μ i b → ∀ (w : World), Gives P (Instr.index t a b) μ v w := by
  unfold idxK at e
  split at e
  · rename_i ht
    split at e
    · rename_i I hI
      split at e
      · rename_i hlt
        simp only [decide_eq_true_eq] at hlt
        obtain ⟨_, _, d, rt⟩ := row hty ht
        have := desc_array rt.desc rfl
        subst this
        obtain ⟨_, _, _, rI⟩ := row hty hI
        obtain ⟨v, h1, h2⟩ := part_run rI e
        refine ⟨v, h1, fun μ a b hx hi w => ?_⟩
        cases repInt hi
        obtain ⟨cs, rfl, hc⟩ := hx
        obtain ⟨cv, n, h3, h4⟩ := h2 μ cs hc w
        refine ⟨cv, n, ?_, h4⟩
        simp [Instr.index, asIntOf, run_underlying rt.under, hlt, rI.run_sizeOf, h3]
      · cases e
    · cases e
  · cases e

theorem fieldOf_row {ty : Ty} (hty : TyOk P ty) {t : TypeId} {f o : Nat} {I : TyI} (e : fieldOf ty t f = some (o, I)) :
    ∃ gs g i z d, P.underlying t = some (.struct gs) ∧ gs[f]? = some g ∧ g.offset = o ∧ RowOk P g.type I i z d := by
  unfold fieldOf at e
  split at e
  · rename_i ht
    obtain ⟨_, _, d, rt⟩ := row hty ht
    obtain ⟨gs, rfl, hgs⟩ := desc_struct rt.desc rfl
    split at e
    · rename_i o' e' hf
      simp only [Option.map_eq_some_iff] at e
      obtain ⟨J, hJ, hh⟩ := e
      cases hh
      obtain ⟨i, z, d', rI⟩ := row hty hJ
      rw [hgs] at hf
      simp only [List.getElem?_map, Option.map_eq_some_iff] at hf
      obtain ⟨g, hg, hgg⟩ := hf
      cases hgg
      exact ⟨gs, g, i, z, d', rt.under, by simpa using hg, rfl, rI⟩
    · cases e
  · cases e

/-- Two heaps that have the same blocks, as far as both go. -/
def Agree (h h2 : H) : Prop := ∀ i, i < h.length → i < h2.length → h[i]? = h2[i]?
theorem Agree.refl (h : H) : Agree h h := fun _ _ _ => rfl

theorem load_run {ty : Ty} (hty : TyOk P ty) {h : H} {t : TypeId} {x : V} (e : loadK ty h t x K = some r) :
    ∃ v, K v = some r ∧ ∀ (μ : Mu) (a : Value), RepV μ x a → ∀ (w : World) (h2 : H), Agree h h2 → Rel μ h2 w → Gives P (Instr.loadAt t a) μ v w := by
  unfold loadK at e
  split at e
  · rename_i I i o ht
    obtain ⟨_, _, d, rt⟩ := row hty ht
    obtain ⟨rw, c, hb, e⟩ := hgetK_spec e
    split at e
    · rename_i ha
      obtain ⟨l, h1, h2, h3⟩ := getNK_spec e
      refine ⟨_, h1, fun μ a hx w h2' ha2 hr => ?_⟩
      obtain ⟨m, hm, rfl⟩ := hx
      have hb : h2'[i]? = some (.at rw c) := (ha2 i (getElem?_lt hb) (by rw [← hr.len]; exact getElem?_lt hm)).symm.trans hb
      have key : ∀ (l' : List A) (k : Nat), (∀ j x, l'[j]? = some x → c.get? (o + (k + j)) = some x) →
          ∃ cs : List Value, RepAs μ l' cs ∧ ∀ j v, cs[j]? = some v → w.cell? ((⟨m.blk, m.off + o, none⟩ : Addr).add (k + j)) = some v := by
        intro l'
        induction l' with
        | nil => exact fun k _ => ⟨[], trivial, fun j v h => by simp at h⟩
        | cons y l' ih =>
          intro k hk
          obtain ⟨cv, h4, h5⟩ := hr.cell i m rw c hm hb (o + (k + 0)) y (hk 0 y rfl)
          obtain ⟨cs, h6, h7⟩ := ih (k + 1) (fun j x hx => by have := hk (j + 1) x (by simpa using hx); rwa [show k + 1 + j = k + (j + 1) by omega])
          refine ⟨cv :: cs, ⟨h5, h6⟩, fun j v hv => ?_⟩
          cases j with
          | zero =>
            simp at hv
            subst hv
            rw [addr_add, Nat.add_assoc]
            exact h4
          | succ j =>
            simp at hv
            have := h7 j v hv
            rwa [show k + 1 + j = k + (j + 1) by omega] at this
      obtain ⟨cs, h4, h5⟩ := key l 0 (fun j x hx => by rw [Nat.zero_add]; exact h3 j x hx)
      refine ⟨.agg ⟨cs⟩, 0, ?_, ⟨cs, rfl, h4⟩⟩
      have hl : I.size = cs.length := by rw [h4.len, h2]
      have h6 := run_loadCells_list (P := P) w (⟨m.blk, m.off + o, none⟩ : Addr) cs (fun j v hv => by have := h5 j v hv; rwa [Nat.zero_add] at this)
      simp only [Instr.loadAt, Instr.sureAddr, Sem.run_bind, Sem.run_pure, Result.andThen, loadVar, rt.run_isAgg, ha, if_true, rt.run_sizeOf]
      rw [hl, h6]
      simp [World.drewN]
    · rename_i ha
      obtain ⟨y, h1, h2⟩ := getK_spec e
      refine ⟨_, h2, fun μ a hx w h2' ha2 hr => ?_⟩
      obtain ⟨m, hm, rfl⟩ := hx
      have hb : h2'[i]? = some (.at rw c) := (ha2 i (getElem?_lt hb) (by rw [← hr.len]; exact getElem?_lt hm)).symm.trans hb
      obtain ⟨cv, h4, h5⟩ := hr.cell i m rw c hm hb o y h1
      refine ⟨cv, 0, ?_, h5⟩
      simp only [Instr.loadAt, Instr.sureAddr, Sem.run_bind, Sem.run_pure, Result.andThen, loadVar, rt.run_isAgg, ha]
      simp [load, Sem.run, h4, World.drewN]
  · cases e

/-- The same of a variable that a result is read from: nothing is drawn. -/
theorem loadVar_run {ty : Ty} (hty : TyOk P ty) {h : H} {t : TypeId} {x : V} (e : loadK ty h t x K = some r) :
    ∃ v, K v = some r ∧ ∀ (μ : Mu) (a : Value), RepV μ x a → ∀ (w : World), Rel μ h w → ∃ cv, (do loadVar t (← asAddr a) : Sem Value).run P w = .ok cv w ∧ RepV μ v cv := by
  unfold loadK at e
  split at e
  · rename_i I i o ht
    obtain ⟨_, _, d, rt⟩ := row hty ht
    obtain ⟨rw, c, hb, e⟩ := hgetK_spec e
    split at e
    · rename_i ha
      obtain ⟨l, h1, h2, h3⟩ := getNK_spec e
      refine ⟨_, h1, fun μ a hx w hr => ?_⟩
      obtain ⟨m, hm, rfl⟩ := hx
      have key : ∀ (l' : List A) (k : Nat), (∀ j x, l'[j]? = some x → c.get? (o + (k + j)) = some x) →
          ∃ cs : List Value, RepAs μ l' cs ∧ ∀ j v, cs[j]? = some v → w.cell? ((⟨m.blk, m.off + o, none⟩ : Addr).add (k + j)) = some v := by
        intro l'
        induction l' with
        | nil => exact fun k _ => ⟨[], trivial, fun j v h => by simp at h⟩
        | cons y l' ih =>
          intro k hk
          obtain ⟨cv, h4, h5⟩ := hr.cell i m rw c hm hb (o + (k + 0)) y (hk 0 y rfl)
          obtain ⟨cs, h6, h7⟩ := ih (k + 1) (fun j x hx => by have := hk (j + 1) x (by simpa using hx); rwa [show k + 1 + j = k + (j + 1) by omega])
          refine ⟨cv :: cs, ⟨h5, h6⟩, fun j v hv => ?_⟩
          cases j with
          | zero =>
            simp at hv
            subst hv
            rw [addr_add, Nat.add_assoc]
            exact h4
          | succ j =>
            simp at hv
            have := h7 j v hv
            rwa [show k + 1 + j = k + (j + 1) by omega] at this
      obtain ⟨cs, h4, h5⟩ := key l 0 (fun j x hx => by rw [Nat.zero_add]; exact h3 j x hx)
      refine ⟨.agg ⟨cs⟩, ?_, ⟨cs, rfl, h4⟩⟩
      have hl : I.size = cs.length := by rw [h4.len, h2]
      have h6 := run_loadCells_list (P := P) w (⟨m.blk, m.off + o, none⟩ : Addr) cs (fun j v hv => by have := h5 j v hv; rwa [Nat.zero_add] at this)
      simp only [asAddr, Sem.run_bind, Sem.run_pure, Result.andThen, loadVar, rt.run_isAgg, ha, if_true, rt.run_sizeOf]
      rw [hl, h6]
    · rename_i ha
      obtain ⟨y, h1, h2⟩ := getK_spec e
      refine ⟨_, h2, fun μ a hx w hr => ?_⟩
      obtain ⟨m, hm, rfl⟩ := hx
      obtain ⟨cv, h4, h5⟩ := hr.cell i m rw c hm hb o y h1
      refine ⟨cv, ?_, h5⟩
      simp only [asAddr, Sem.run_bind, Sem.run_pure, Result.andThen, loadVar, rt.run_isAgg, ha]
      simp [load, Sem.run, h4]
  · cases e

theorem len_run {ty : Ty} (hty : TyOk P ty) {t : TypeId} {x : V} (e : lenK ty t x K = some r) :
    ∃ v, K v = some r ∧ ∀ (μ : Mu) (a : Value), RepV μ x a → ∀ (w : World) (ts : List TypeId) (rt : TypeId), Gives P (Builtin.len_ ⟨t :: ts⟩ rt #[a]) μ v w := by
  unfold lenK at e
  split at e
  · rename_i ht
    obtain ⟨_, _, d, rt⟩ := row hty ht
    have := desc_slice rt.desc rfl
    subst this
    refine ⟨_, e, fun μ a h w ts rt' => ?_⟩
    obtain ⟨m, ad, c, _, rfl, _⟩ := h
    exact ⟨_, 0, by simp [Builtin.len_, run_underlying rt.under, goInt, World.drewN], rfl⟩
  · rename_i ht
    obtain ⟨_, _, d, rt⟩ := row hty ht
    have := desc_slice rt.desc rfl
    subst this
    refine ⟨_, e, fun μ a h w ts rt' => ?_⟩
    obtain ⟨m, _, ⟨c, rfl, _, _⟩ | ⟨rfl, rfl⟩⟩ := h
    · exact ⟨_, 0, by simp [Builtin.len_, run_underlying rt.under, goInt, World.drewN], rfl⟩
    · exact ⟨_, 0, by simp [Builtin.len_, run_underlying rt.under, goInt, World.drewN], rfl⟩
  · rename_i ht
    obtain ⟨_, _, d, rt⟩ := row hty ht
    have := desc_slice rt.desc rfl
    subst this
    refine ⟨_, e, fun μ a h w ts rt' => ?_⟩
    obtain ⟨D, hD, rfl, hl, ⟨rfl, rfl⟩ | ⟨_, _, _, rfl, _⟩⟩ := h
    · rw [ndig_len hD hl]
      exact ⟨_, 0, by simp [Builtin.len_, run_underlying rt.under, goInt, World.drewN], rfl⟩
    · rw [ndig_len hD hl]
      exact ⟨_, 0, by simp [Builtin.len_, run_underlying rt.under, goInt, World.drewN], rfl⟩
  · rename_i ht
    obtain ⟨_, _, d, rt⟩ := row hty ht
    have := desc_slice rt.desc rfl
    subst this
    refine ⟨_, e, fun μ a h w ts rt' => ?_⟩
    cases h
    exact ⟨_, 0, by simp [Builtin.len_, run_underlying rt.under, goInt, World.drewN], rfl⟩
  · rename_i ht
    obtain ⟨_, _, d, rt⟩ := row hty ht
    have := desc_slice rt.desc rfl
    subst this
    refine ⟨_, e, fun μ a h w ts rt' => ?_⟩
    obtain ⟨ad, rfl⟩ := h
    exact ⟨_, 0, by simp [Builtin.len_, run_underlying rt.under, goInt, World.drewN], rfl⟩
  · cases e

theorem max2_run {mx : Bool} {x y : V} (e : minmaxK mx x y K = some r) :
    ∃ v, K v = some r ∧ ∀ (μ : Mu) (a b : Value), RepV μ x a → RepV μ y b → ∀ (w : World), Gives P (if mx then Builtin.max2 a b else Builtin.min2 a b) μ v w := by
  unfold minmaxK at e
  split at e
  · split at e
    · rename_i hk; subst hk
      refine ⟨_, e, fun μ a b hx hy w => ?_⟩
      cases repInt hx; cases repInt hy
      cases mx
      · exact ⟨_, 0, rfl, rfl⟩
      · exact ⟨_, 0, rfl, rfl⟩
    · cases e
  · rename_i k a' k' b'
    split at e
    · rename_i hk; subst hk
      refine ⟨_, e, fun μ a b hx hy w => ?_⟩
      obtain ⟨x', rfl, rfl⟩ := repFl hx
      obtain ⟨y', rfl, rfl⟩ := repFl hy
      cases ho : k.format.order x' y' with
      | none =>
        refine ⟨.float k ((Question.nanMinMax k mx x' y').cut (w.tape w.drawn (.nanMinMax k mx x' y'))), 1, ?_, ⟨_, rfl, ?_⟩⟩
        · cases mx
          · simp only [Bool.false_eq_true, if_false, Builtin.min2, ho]; simp [choose, Sem.run]; rfl
          · simp only [if_true, Builtin.max2, ho]; simp [choose, Sem.run]; rfl
        · rw [canon_nan (isN_cut k _ _ (.inr (.inr ⟨mx, x', y', rfl⟩)))]
          cases mx <;> simp [fmax, fmin, order_canon, ho]
      | some q =>
        have hx' : isN k x' = false := by
          cases hn : isN k x'
          · rfl
          · rw [order_nan (.inl hn)] at ho; cases ho
        have hy' : isN k y' = false := by
          cases hn : isN k y'
          · rfl
          · rw [order_nan (.inr hn)] at ho; cases ho
        rw [canon_of hx', canon_of hy']
        cases mx
        · refine ⟨.float k (fmin k x' y'), 0, ?_, ⟨_, rfl, ?_⟩⟩
          · cases q <;> simp [Builtin.min2, ho, fmin, World.drewN]
          · unfold fmin; rw [ho]; cases q
            · exact canon_of hx'
            · simp only []; split; exact canon_of hx'; exact canon_of hy'
            · exact canon_of hy'
        · refine ⟨.float k (fmax k x' y'), 0, ?_, ⟨_, rfl, ?_⟩⟩
          · cases q <;> simp [Builtin.max2, ho, fmax, World.drewN]
          · unfold fmax; rw [ho]; cases q
            · exact canon_of hy'
            · simp only []; split; exact canon_of hy'; exact canon_of hx'
            · exact canon_of hx'
    · cases e
  · cases e

theorem maxs_run {mx : Bool} : ∀ {xs : List Operand} {t : List V} {x : V}, minmaxsK mx x (xs.map (ev t)) K = some r →
    ∃ v, K v = some r ∧ ∀ (ρ : Operand → Value) (μ : Mu) (a : Value), RepV μ x a → (∀ o ∈ xs, RepV μ (ev t o) (ρ o)) → ∀ (w : World), Gives P ((xs.map ρ).foldlM (if mx then Builtin.max2 else Builtin.min2) a) μ v w
  | [], t, x, e => ⟨_, e, fun ρ μ a h _ w => ⟨a, 0, rfl, h⟩⟩
  | y :: xs, t, x, e => by
    obtain ⟨z, h1, h2⟩ := max2_run (P := P) e
    obtain ⟨v, h3, h4⟩ := maxs_run h1
    refine ⟨v, h3, fun ρ μ a ha ho w => ?_⟩
    obtain ⟨c, n, h5, h6⟩ := h2 μ a (ρ y) ha (ho y (List.mem_cons_self ..)) w
    obtain ⟨c', n', h7, h8⟩ := h4 ρ μ c h6 (fun o hh => ho o (List.mem_cons_of_mem _ hh)) (w.drewN n)
    refine ⟨c', n + n', ?_, h8⟩
    simp only [List.map_cons, List.foldlM_cons, Sem.run_bind]
    have : (if mx = true then Builtin.max2 else Builtin.min2) a (ρ y) = if mx = true then Builtin.max2 a (ρ y) else Builtin.min2 a (ρ y) := by split <;> rfl
    rw [this, h5]
    simp only [Result.andThen]
    rw [h7, drewN_drewN]

end
end Go.Proofs.Ytlopdogjdfeikaa.Ab
