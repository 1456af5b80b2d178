/- A region: its operations one behind another; and in any order that its edges allow. Only lemmas. -/
import Derived.Test.YtlopdogjdfeikaaAbCall
namespace Go.Proofs.Ytlopdogjdfeikaa.Ab
set_option linter.unusedVariables false
set_option linter.unusedSimpArgs false
open Go

/-- What is known of an operation beyond its step, by its kind. -/
def KindOk (P : Program) (kd : Kd) (o : Oper) (t : List V) (h : H) (v : V) (h' : H) : Prop :=
  match kd with
  | .s => h' = h ∧ ∀ h2, OpOk P o t h2 v h2
  | .q => h' = h ∧ ∀ h2, Agree h h2 → OpOk P o t h2 v h2
  | .n => h' = h
  | .g => ∃ g, h' = h ++ g
  | .l => True

section
variable {P : Program} {R : Type} {r : R}

theorem step_ok {ty : Ty} (hty : TyOk P ty) {fns : Fns} (hfn : ∀ f, FnT P f (fns f)) {cls : Cls} {t : List V} {h : H} {o : Oper} {op : Op} (ho : o.op = op) {K : V → H → Option R} (e : stepK ty fns cls t h op K = some r) :
    ∃ v h', K v h' = some r ∧ OpOk P o t h v h' ∧ KindOk P (kindOf cls op) o t h v h' := by
  have quiet : ∀ {op : Op}, o.op = op → kindOf cls op = .q → quietK ty t h op (fun v => K v h) = some r → ∃ v h', K v h' = some r ∧ OpOk P o t h v h' ∧ KindOk P (kindOf cls op) o t h v h' := by
    intro op ho hk e
    subst ho
    obtain ⟨v, h1, h2⟩ := quiet_ok hty e
    exact ⟨v, h, h1, h2 h (.refl h), by rw [hk]; exact ⟨rfl, h2⟩⟩
  unfold stepK at e
  split at e
  · -- alloc
    split at e
    · rename_i I hI
      exact ⟨_, _, e, alloc_ok hty ho hI, ⟨_, rfl⟩⟩
    · cases e
  · -- box
    split at e
    · rename_i I l hI hl
      split at e
      · exact ⟨_, _, e, box_ok ho hl, ⟨_, rfl⟩⟩
      · cases e
    · cases e
  · -- buildSlice
    split at e
    · rename_i hJ
      split at e
      · rename_i I hI
        split at e
        · cases e
        · rename_i hd
          simp only [decide_eq_true_eq] at hd
          split at e
          · rename_i l hl
            split at e
            · rename_i c hc
              exact ⟨_, _, e, buildSlice_ok hty ho hJ rfl hI hd hl hc, ⟨_, rfl⟩⟩
            · cases e
          · cases e
      · cases e
    · cases e
  · -- makeSlice
    split at e
    · rename_i hJ hx hy
      split at e
      · rename_i I hI
        split at e
        · rename_i hd
          simp only [decide_eq_true_eq] at hd
          split at e
          · rename_i c hc
            exact ⟨_, _, e, makeSlice_ok hty ho hJ rfl hI hx hy hd hc, ⟨_, rfl⟩⟩
          · cases e
        · cases e
      · cases e
    · cases e
  · -- store
    obtain ⟨h', h1, h2⟩ := store_ok hty ho e
    exact ⟨_, h', h1, h2, trivial⟩
  · -- append
    obtain ⟨v, h', h1, h2⟩ := append_ok hty ho e
    exact ⟨v, h', h1, h2, trivial⟩
  · -- a call
    split at e
    · rename_i hf
      split at e
      · obtain ⟨v, h1, h2⟩ := callQ_core hfn e
        exact ⟨v, h, h1, call_ok ho hf h2, rfl⟩
      · obtain ⟨v, g, h1, h2⟩ := callG_core hfn e
        exact ⟨v, _, h1, call_ok ho hf h2, ⟨g, rfl⟩⟩
      · obtain ⟨v, h', h1, h2⟩ := callK_core hfn e
        exact ⟨v, h', h1, call_ok ho hf h2, trivial⟩
    · cases e
  · -- the quiet ones
    have hk : kindOf cls op = .q ∨ ∃ x, op = .move x := by
      unfold quietK at e
      split at e <;> first | exact .inl rfl | exact .inr ⟨_, rfl⟩ | (cases e; done)
    rcases hk with hk | ⟨x, rfl⟩
    · exact quiet ho hk e
    · have hm : ∀ h2, OpOk P o t h2 (ev t x) h2 := fun h2 => by
        have e2 : quietK ty t h2 o.op (fun v => some v) = some (ev t x) := by rw [ho]; rfl
        obtain ⟨v, h1, h3⟩ := quiet_ok hty e2
        cases h1
        exact h3 h2 (.refl h2)
      exact ⟨ev t x, h, e, hm h, rfl, hm⟩

/-! ### One behind another -/
theorem nth_set {t : List V} {d i : Nat} {v : V} : nth (t.set d v) i = if i = d ∧ d < t.length then v else nth t i := by
  induction t generalizing d i with
  | nil => simp [nth]
  | cons x t ih =>
    cases d with
    | zero => cases i <;> simp [nth]
    | succ d =>
      cases i with
      | zero => simp [nth]
      | succ i => simp [nth, ih]
theorem setK_eq {t : List V} {d : Nat} {v : V} {K : List V → Option R} : setK t d v K = K (t.set d v) := by
  induction t generalizing d K with
  | nil => simp [setK]
  | cons x t ih =>
    cases d with
    | zero => simp [setK]
    | succ d => simp only [setK, ih]; rfl
def putV (t : List V) (d : Option Tmp) (v : V) : List V := match d with | some d => t.set d v | none => t
theorem atomK_eq {x : A} {K : A → Option R} : atomK x K = K x := by cases x <;> rfl
theorem atomsK_eq : ∀ {l : List A} {K : List A → Option R}, atomsK l K = K l
  | [], _ => rfl
  | x :: l, K => by simp only [atomsK, atomK_eq, atomsK_eq (l := l)]
theorem unitK_eq {x : U} {K : U → Option R} : unitK x K = K x := by
  cases x with
  | a x => simp only [unitK, atomK_eq]
  | g l => simp only [unitK, atomsK_eq]
theorem unitsK_eq : ∀ {l : List U} {K : List U → Option R}, unitsK l K = K l
  | [], _ => rfl
  | x :: l, K => by simp only [unitsK, unitK_eq, unitsK_eq (l := l)]
theorem valK_eq {v : V} {K : V → Option R} : valK v K = K v := by
  cases v with
  | any => rfl
  | u x => simp only [valK, unitK_eq]
  | tup l => simp only [valK, unitsK_eq]
theorem putK_eq {t : List V} {d : Option Tmp} {v : V} {K : List V → Option R} : putK t d v K = K (putV t d v) := by
  cases d with
  | none => rfl
  | some d => simp only [putK, valK_eq]; exact setK_eq
theorem set_nth {t : List V} {d : Nat} {v : V} (h : nth t d = v) : t.set d v = t := by
  induction t generalizing d with
  | nil => simp
  | cons x t ih =>
    cases d with
    | zero => simp [nth] at h; simp [h]
    | succ d => simp [nth] at h; simp [ih h]
theorem Slots.put {μ : Mu} {t : List V} {a : Act} {d : Option Tmp} {v : V} {cv : Value} (h : Slots μ t a) (hv : RepV μ v cv) : Slots μ (putV t d v) (a.put d cv) := by
  cases d with
  | none => exact h
  | some d =>
    refine ⟨by simp [putV, Act.put, h.1], fun i => ?_⟩
    simp only [putV, Act.put, nth_set]
    split
    · rename_i he
      obtain ⟨rfl, hlt⟩ := he
      rw [Array.getD_eq_getD_getElem?, Array.getElem?_setIfInBounds]
      simp [h.1, hlt, hv]
    · rename_i he
      have := h.2 i
      rw [Array.getD_eq_getD_getElem?] at this ⊢
      rw [Array.getElem?_setIfInBounds]
      split
      · rename_i e
        subst e
        split
        · rename_i hlt; exact absurd ⟨rfl, by rw [← h.1]; exact hlt⟩ he
        · rename_i hlt
          rw [Array.getElem?_eq_none (by omega)] at this
          exact this
      · exact this
theorem Slots.pre {μ μ' : Mu} (hp : Pre μ μ') {t : List V} {a : Act} (h : Slots μ t a) : Slots μ' t a := ⟨h.1, fun i => (h.2 i).pre hp⟩

/-- One operation in its place: carried out, or passed over. -/
inductive Lex (P : Program) (cl : Nat → Cls) (ops : Array Oper) : Nat → List Oper → List V → H → List V → H → Prop
  | nil (n : Nat) (t : List V) (h : H) : Lex P cl ops n [] t h t h
  | run (n : Nat) (o : Oper) (rest : List Oper) (t : List V) (h : H) (v : V) (h' : H) (t' : List V) (h2 : H)
      (hg : ∀ g want, o.guard = some (g, want) → ∃ d, dstAt ops g = some d ∧ nth t d = .bool want)
      (ho : OpOk P o t h v h') (hk : KindOk P (kindOf (cl n) o.op) o t h v h') (hr : Lex P cl ops (n + 1) rest (putV t o.dst v) h' t' h2) : Lex P cl ops n (o :: rest) t h t' h2
  | skip (n : Nat) (o : Oper) (rest : List Oper) (t : List V) (h : H) (t' : List V) (h2 : H) (g : Nat) (want : Bool) (d : Nat) (hg : o.guard = some (g, want)) (hd : dstAt ops g = some d)
      (hn : nth t d = .bool (!want) ∨ nth t d = V.no) (hr : Lex P cl ops (n + 1) rest (putV t o.dst V.no) h t' h2) : Lex P cl ops n (o :: rest) t h t' h2

theorem opsK_lex {ty : Ty} (hty : TyOk P ty) {fns : Fns} (hfn : ∀ f, FnT P f (fns f)) {cl : Nat → Cls} {ops : Array Oper} : ∀ {l : List Oper} {n : Nat} {t : List V} {h : H} {K : List V → H → Option R},
    opsK ty fns cl ops n l t h K = some r → ∃ t' h', K t' h' = some r ∧ Lex P cl ops n l t h t' h'
  | [], n, t, h, K, e => ⟨t, h, e, .nil n t h⟩
  | o :: rest, n, t, h, K, e => by
    unfold opsK at e
    split at e
    · rename_i hg
      obtain ⟨v, h', h1, h2, h3⟩ := step_ok hty hfn rfl e
      rw [putK_eq] at h1
      obtain ⟨t', h2', h4, h5⟩ := opsK_lex hty hfn h1
      exact ⟨t', h2', h4, .run n o rest t h v h' t' h2' (fun g want hh => by rw [hg] at hh; cases hh) h2 h3 h5⟩
    · rename_i j want hg
      split at e
      · cases e
      · rename_i d hd
        split at e
        · rename_i p hb
          split at e
          · split at e
            · rw [setK_eq, set_nth hb] at e
              obtain ⟨v, h', h1, h2, h3⟩ := step_ok hty hfn rfl e
              rw [putK_eq] at h1
              obtain ⟨t', h2', h4, h5⟩ := opsK_lex hty hfn h1
              exact ⟨t', h2', h4, .run n o rest t h v h' t' h2' (fun g want hh => by rw [hg] at hh; cases hh; exact ⟨d, hd, hb⟩) h2 h3 h5⟩
            · rw [setK_eq, set_nth hb, putK_eq] at e
              obtain ⟨t', h2', h4, h5⟩ := opsK_lex hty hfn e
              exact ⟨t', h2', h4, .skip n o rest t h t' h2' j false d hg hd (.inl hb) h5⟩
          · split at e
            · rw [setK_eq, set_nth hb] at e
              obtain ⟨v, h', h1, h2, h3⟩ := step_ok hty hfn rfl e
              rw [putK_eq] at h1
              obtain ⟨t', h2', h4, h5⟩ := opsK_lex hty hfn h1
              exact ⟨t', h2', h4, .run n o rest t h v h' t' h2' (fun g want hh => by rw [hg] at hh; cases hh; exact ⟨d, hd, hb⟩) h2 h3 h5⟩
            · rw [setK_eq, set_nth hb, putK_eq] at e
              obtain ⟨t', h2', h4, h5⟩ := opsK_lex hty hfn e
              exact ⟨t', h2', h4, .skip n o rest t h t' h2' j true d hg hd (.inl hb) h5⟩
        · rename_i hb
          rw [putK_eq] at e
          obtain ⟨t', h2', h4, h5⟩ := opsK_lex hty hfn e
          exact ⟨t', h2', h4, .skip n o rest t h t' h2' j want d hg hd (.inr hb) h5⟩
        · cases e

/-- Where code stands: the frame and the world, as the slots and the heap tell. -/
structure Inv (μ0 : Mu) (h0 : H) (w0 : World) (μ : Mu) (st : St) (a : Act) (w : World) : Prop where
  slots : Slots μ st.t a
  defers : a.defers = []
  ev : Ev μ0 h0 w0 μ st.h w

theorem wanted_of {μ : Mu} {t : List V} {a : Act} (hs : Slots μ t a) {ops : Array Oper} {o : Oper} {g : Nat} {want : Bool} {d : Nat} (hg : o.guard = some (g, want)) (hd : dstAt ops g = some d) :
    (nth t d = .bool want → Region.wanted o (yielded ops a.tmps) = true) ∧ (nth t d = .bool (!want) ∨ nth t d = V.no → Region.wanted o (yielded ops a.tmps) = false) := by
  have hv := hs.2 d
  have hy : yielded ops a.tmps g = match a.tmps[d]? with | some (.bool b) => some b | _ => none := by
    unfold dstAt at hd
    simp only [yielded, hd, Option.bind_some]
    cases a.tmps[d]? with
    | none => rfl
    | some u => cases u <;> rfl
  rw [Array.getD_eq_getD_getElem?] at hv
  unfold Region.wanted
  simp only [hg, hy]
  refine ⟨fun h => ?_, fun h => ?_⟩
  · rw [h] at hv
    have := repBool hv
    cases hh : a.tmps[d]? with
    | none => rw [hh] at this; cases this
    | some u => rw [hh] at this; simp at this; subst this; simp
  · rcases h with h | h
    · rw [h] at hv
      have := repBool hv
      cases hh : a.tmps[d]? with
      | none => rw [hh] at this; cases this
      | some u => rw [hh] at this; simp at this; subst this; cases want <;> simp
    · rw [h] at hv
      obtain ⟨cs, hcs, _⟩ := hv
      cases hh : a.tmps[d]? with
      | none => simp
      | some u => rw [hh] at hcs; simp at hcs; subst hcs; simp

theorem lex_wp {cl : Nat → Cls} {ops : Array Oper} {Q : Exit → Act → World → Prop} {μ0 : Mu} {h0 : H} {w0 : World} {t' : List V} {h' : H} (hQ : ∀ μ a w, Inv μ0 h0 w0 μ ⟨t', h'⟩ a w → Q .normal a w) :
    ∀ {l : List Oper} {n : Nat} {t : List V} {h : H}, Lex P cl ops n l t h t' h' → ∀ {μ : Mu} {a : Act} {w : World}, Inv μ0 h0 w0 μ ⟨t, h⟩ a w → wpList P ops Q l a w := by
  intro l n t h hl
  induction hl with
  | nil n t h => intro μ a w hi; exact hQ μ a w hi
  | run n o rest t h v h1 t' h2 hg ho hk hr ih =>
    intro μ a w hi
    have hw : Region.wanted o (yielded ops a.tmps) = true := by
      cases hgd : o.guard with
      | none => unfold Region.wanted; rw [hgd]
      | some p =>
        obtain ⟨g, want⟩ := p
        obtain ⟨d, hd, hn⟩ := hg g want hgd
        exact (wanted_of hi.slots hgd hd).1 hn
    refine wpList_step fun K hK => ?_
    rw [if_pos hw]
    refine ho μ a w (fun x _ => ev_rep hi.slots x) hi.ev.rel K Q fun cv w' hgo => hK _ _ ?_
    obtain ⟨μ', he, hcv⟩ := hgo
    exact ih hQ ⟨(hi.slots.pre he.pre).put hcv, by cases o.dst <;> exact hi.defers, hi.ev.trans he⟩
  | skip n o rest t h t' h2 g want d hg hd hn hr ih =>
    intro μ a w hi
    have hw := (wanted_of hi.slots hg hd).2 hn
    refine wpList_step fun K hK => ?_
    rw [if_neg (by rw [hw]; simp)]
    exact hK _ _ (ih hQ ⟨hi.slots.put (RepV.no μ), by cases o.dst <;> exact hi.defers, hi.ev⟩)

end
end Go.Proofs.Ytlopdogjdfeikaa.Ab
