/- Calls: the called function has the blocks that its arguments name; what it did to them is laid back. Only lemmas. -/
import Derived.Test.YtlopdogjdfeikaaAbApp
namespace Go.Proofs.Ytlopdogjdfeikaa.Ab
set_option linter.unusedVariables false
set_option linter.unusedSimpArgs false
open Go

/-- A call of function 'f' comes to 'R': it is entered and returns, or the model has its answer at once. -/
def CallRes (P : Program) (f : FuncId) (cvs : List Value) (w : World) (R : Value → World → Prop) : Prop :=
  ((callFunc f ⟨cvs⟩).run P w = .ok (.enter f ⟨cvs⟩) w ∧ Calls P f ⟨cvs⟩ w fun e w' => ∃ cv, e = .returned cv ∧ R cv w') ∨
  ∃ cv w', (callFunc f ⟨cvs⟩).run P w = .ok (.value cv) w' ∧ R cv w'
theorem CallRes.mono {P : Program} {f : FuncId} {cvs : List Value} {w : World} {R R' : Value → World → Prop} (h : CallRes P f cvs w R) (k : ∀ cv w', R cv w' → R' cv w') : CallRes P f cvs w R' := by
  rcases h with ⟨h1, h2⟩ | ⟨cv, w', h1, h2⟩
  · exact .inl ⟨h1, h2.mono fun e w' ⟨cv, h3, h4⟩ => ⟨cv, h3, k cv w' h4⟩⟩
  · exact .inr ⟨cv, w', h1, k cv w' h2⟩

/-- The small machine's word for a function holds of the model's function. -/
def FnT (P : Program) (f : FuncId) (g : List V → H → T) : Prop :=
  ∀ vs h v h', (g vs h).run = some (v, h') → ∀ (μ : Mu) (w : World) (cvs : List Value), Rel μ h w → RepVs μ vs cvs → CallRes P f cvs w fun cv w' => Goes μ h w v h' cv w'

section
variable {P : Program} {R : Type} {r : R}

theorem Tells.pick_ids {μ : Mu} {ids : List Nat} : Tells (fun j => (ids[j]?).getD 0) (pick μ ids) (pick μ ids) → True := fun _ => trivial

theorem callK_core {fns : Fns} (hfn : ∀ f, FnT P f (fns f)) {f : FuncId} {vs : List V} {h : H} {K : V → H → Option R} (e : callK fns f vs h K = some r) :
    ∃ v h', K v h' = some r ∧ ∀ (μ : Mu) (w : World) (cvs : List Value), Rel μ h w → RepVs μ vs cvs → CallRes P f cvs w fun cv w' => Goes μ h w v h' cv w' := by
  unfold callK at e
  dsimp only at e
  generalize hids : close h 3 ((vs.flatMap V.ids).foldl addNew []) = ids at e
  have hn : ids.Nodup := by rw [← hids]; exact close_nodup h 3 (foldAdd_nodup _ List.nodup_nil)
  split at e
  · cases e
  · rename_i ws hws
    split at e
    · cases e
    · rename_i g hg
      rw [T.k_run] at e
      split at e
      case h_2 => cases e
      case h_1 =>
        rename_i v g' hf
        refine ⟨_, _, e, fun μ w cvs hr hv => ?_⟩
        have hsub := pick_sub μ ids
        have hr' := hr.sub hn hg
        have hpl : (pick μ ids).l.length = ids.length := by simp [pick]
        refine (hfn f ws g v g' hf (pick μ ids) w cvs hr' (hv.ren hsub hws)).mono fun cv w' hgo => ?_
        obtain ⟨μ', he, hcv⟩ := hgo
        obtain ⟨z', l'⟩ := μ'
        obtain ⟨hzl, ν, hν⟩ := he.pre
        dsimp only at hzl hν
        subst hν
        obtain ⟨h1, h2⟩ := hr.laid hn hg he.rel.len he.rel he.fr (fun i m rw c hi hm hb => he.new i m rw c (by rw [hpl]; exact hi) hm hb) (fun j rw c hj hb => he.old j rw c (by rw [hpl]; exact hj) hb) hzl he.zn
        have hwr : ∀ k, Wr (pick μ ids) g k → Wr μ h k := by
          intro k hk
          obtain ⟨j, i, m, c, _, q1, q2, q3⟩ := Wr.sub hr hg hk
          exact ⟨i, m, c, q1, q2, q3⟩
        have hidlt : ∀ i ∈ ids, i < h.length := by
          intro i hi
          obtain ⟨j, hj⟩ := List.getElem?_of_mem hi
          obtain ⟨y, hy, _⟩ := optMap_get hg j i hj
          exact renAt_lt hy
        have hlen' : ids.length ≤ g'.length := by have := he.rel.len; simp [hpl] at this; omega
        obtain ⟨L1, L2, L3⟩ := layBack_get (back ids h.length) ids h g' hn hlen' hidlt
        refine ⟨⟨z', μ.l ++ ν⟩, ⟨h1, ⟨hzl, ν, rfl⟩, he.fr.mono hwr, fun j rw c hj hb => ?_, fun i m rw c hi hm hb => ?_, fun k cur hk => ?_⟩, hcv.up h2⟩
        · rw [hr.len] at hj
          by_cases hm : j ∈ ids
          · obtain ⟨p, hp⟩ := List.getElem?_of_mem hm
            rw [L2 p j hp] at hb
            simp only [Option.map_eq_some_iff] at hb
            obtain ⟨b, hb1, hb2⟩ := hb
            obtain ⟨d, rfl, _, hdg⟩ := B.up_at hb2
            obtain ⟨d', hd', hdl⟩ := he.old p rw d (by rw [hpl]; exact getElem?_lt hp) hb1
            obtain ⟨i', hi', hren⟩ := optMap_inv hg p _ hd'
            rw [hp] at hi'
            cases hi'
            obtain ⟨c2, hc2, _, hc2g⟩ := renAt_at hren
            have hc2l : d'.live rw → c2.live rw := fun h => h.imp id fun ⟨p, x, hx⟩ => (hc2g p x hx).elim fun y hy => ⟨p, y, hy.1⟩
            exact ⟨c2, hc2, fun h => hc2l (hdl (h.imp id fun ⟨p, x, hx⟩ => (hdg p x hx).elim fun y hy => ⟨p, y, hy.1⟩))⟩
          · rw [L1 j hj hm] at hb
            exact ⟨c, hb, id⟩
        · obtain ⟨q, rfl⟩ : ∃ q, i = h.length + q := ⟨i - h.length, by rw [← hr.len]; omega⟩
          rw [L3 q] at hb
          simp only [Option.map_eq_some_iff] at hb
          obtain ⟨b, hb1, hb2⟩ := hb
          obtain ⟨d, rfl, _⟩ := B.up_at hb2
          rw [← hr.len, List.getElem?_append_right (by omega), Nat.add_sub_cancel_left] at hm
          obtain ⟨q1, q2⟩ := he.new (ids.length + q) m rw d (by rw [hpl]; omega) (by rw [List.getElem?_append_right (by omega), hpl, Nat.add_sub_cancel_left]; exact hm) hb1
          exact ⟨q1, q2.imp (hwr _) id⟩
        · exact (he.zn k cur hk).imp id (Or.imp (hwr _) id)

theorem RepA.of_flat {μ μ' : Mu} {x : A} {cv : Value} (hx : x.flat = true) (r : RepA μ x cv) : RepA μ' x cv := by
  cases x <;> first | exact r | cases hx
theorem RepV.of_flat {μ μ' : Mu} {v : V} {cv : Value} (hv : v.flat = true) (r : RepV μ v cv) : RepV μ' v cv := by
  have as : ∀ {l : List A} {cs : List Value}, l.all A.flat = true → RepAs μ l cs → RepAs μ' l cs := by
    intro l
    induction l with
    | nil => intro cs _ h; cases cs with | nil => trivial | cons _ _ => exact h.elim
    | cons x l ih =>
      intro cs hl h
      simp only [List.all_cons, Bool.and_eq_true] at hl
      cases cs with
      | nil => exact h.elim
      | cons c cs => exact ⟨h.1.of_flat hl.1, ih hl.2 h.2⟩
  have us : ∀ {x : U} {cv : Value}, x.flat = true → RepU μ x cv → RepU μ' x cv := by
    intro x cv hx h
    cases x with
    | a x => exact RepA.of_flat hx h
    | g l => obtain ⟨cs, rfl, h⟩ := h; exact ⟨cs, rfl, as hx h⟩
  cases v with
  | any => trivial
  | u x => exact us hv r
  | tup l =>
    obtain ⟨cs, rfl, h⟩ := r
    refine ⟨cs, rfl, ?_⟩
    have hv' : l.all U.flat = true := hv
    clear hv
    induction l generalizing cs with
    | nil => cases cs with | nil => trivial | cons _ _ => exact h.elim
    | cons x l ih =>
      simp only [List.all_cons, Bool.and_eq_true] at hv'
      cases cs with
      | nil => exact h.elim
      | cons c cs => exact ⟨us hv'.1 h.1, ih cs h.2 hv'.2⟩

theorem still_get {h : H} {i : Nat} {rw : Bool} {c : C} (e : (h.map B.still)[i]? = some (.at rw c)) : rw = false ∧ ∃ rw', h[i]? = some (.at rw' c) := by
  simp only [List.getElem?_map, Option.map_eq_some_iff] at e
  obtain ⟨b, hb, hb'⟩ := e
  cases b with
  | gone => cases hb'
  | «at» rw' c' => simp only [B.still] at hb'; cases hb'; exact ⟨rfl, rw', hb⟩
theorem get_still {h : H} {i : Nat} {rw : Bool} {c : C} (e : h[i]? = some (.at rw c)) : (h.map B.still)[i]? = some (.at false c) := by simp [e, B.still]
theorem Rel.still {μ : Mu} {h : H} {w : World} (r : Rel μ h w) : Rel μ (h.map B.still) w := by
  refine ⟨by simp [r.len], fun i m rw c hm hb => ?_, fun i m c hm hb => ?_, fun i m rw c hm hb hl => ?_, fun i j m n c rw d hne hm hn hb hd hl => ?_, fun k cur hk => ⟨(r.fz k cur hk).1, fun i m c hm hb => ?_⟩⟩
  · obtain ⟨_, rw', hb'⟩ := still_get hb
    exact r.cell i m rw' c hm hb'
  · have := (still_get hb).1; cases this
  · obtain ⟨e, rw', hb'⟩ := still_get hb
    exact r.lt i m rw' c hm hb' (hl.elim (fun h => by rw [e] at h; cases h) .inr)
  · have := (still_get hb).1; cases this
  · have := (still_get hb).1; cases this
theorem not_wr_still {μ : Mu} {h : H} {k : Nat} : ¬ Wr μ (h.map B.still) k := by
  rintro ⟨i, m, c, _, hb, _⟩
  have := (still_get hb).1; cases this

theorem callQ_core {fns : Fns} (hfn : ∀ f, FnT P f (fns f)) {f : FuncId} {vs : List V} {h : H} {K : V → Option R} (e : callQ fns f vs h K = some r) :
    ∃ v, K v = some r ∧ ∀ (μ : Mu) (w : World) (cvs : List Value), Rel μ h w → RepVs μ vs cvs → CallRes P f cvs w fun cv w' => Goes μ h w v h cv w' := by
  unfold callQ at e
  obtain ⟨v, h', h1, h2⟩ := callK_core hfn e
  split at h1
  · rename_i hfl
    refine ⟨v, h1, fun μ w cvs hr hv => (h2 μ w cvs hr.still hv).mono fun cv w' hg => ?_⟩
    obtain ⟨μ', he, hcv⟩ := hg
    have hf : Fr (Wr μ h) w w' := he.fr.mono fun k hk => absurd hk not_wr_still
    exact ⟨μ, ⟨hr.fr he.fr (fun i m rw c _ _ => not_wr_still) (fun _ _ _ => not_wr_still), .refl μ, hf, fun j rw c _ hb => ⟨c, hb, id⟩, fun i m rw c hi hm _ => absurd (getElem?_lt hm) (by omega), fun _ _ h => .inl h⟩, hcv.of_flat hfl⟩
  · cases h1

theorem callG_core {fns : Fns} (hfn : ∀ f, FnT P f (fns f)) {f : FuncId} {vs : List V} {h : H} {K : V → H → Option R} (e : callG fns f vs h K = some r) :
    ∃ v g, K v (h ++ g) = some r ∧ ∀ (μ : Mu) (w : World) (cvs : List Value), Rel μ h w → RepVs μ vs cvs → CallRes P f cvs w fun cv w' => Goes μ h w v (h ++ g) cv w' := by
  unfold callG at e
  obtain ⟨v, h', h1, h2⟩ := callK_core hfn e
  refine ⟨v, _, h1, fun μ w cvs hr hv => (h2 μ w cvs hr.still hv).mono fun cv w' hg => ?_⟩
  obtain ⟨μ', he, hcv⟩ := hg
  have hold := hr.fr (w' := w') he.fr (fun i m rw c _ _ => not_wr_still) (fun _ _ _ => not_wr_still)
  have hlen : h.length ≤ h'.length := by have := he.pre.len; rw [he.rel.len, hr.len] at this; exact this
  have hμ : μ'.l.length = (h ++ h'.drop h.length).length := by rw [he.rel.len]; simp; omega
  -- a block is an old one, or a new one
  have cases2 : ∀ (i : Nat) (m : M) (rw : Bool) (c : C), μ'.l[i]? = some m → (h ++ h'.drop h.length)[i]? = some (.at rw c) →
      (i < h.length ∧ μ.l[i]? = some m ∧ h[i]? = some (.at rw c)) ∨ (h.length ≤ i ∧ h'[i]? = some (.at rw c) ∧ rw = true ∧ w.heap.size ≤ m.blk) := by
    intro i m rw c hm hb
    by_cases hi : i < h.length
    · rw [List.getElem?_append_left hi] at hb
      exact .inl ⟨hi, he.pre.back (by rw [hr.len]; exact hi) hm, hb⟩
    · rw [List.getElem?_append_right (by omega), List.getElem?_drop] at hb
      rw [show h.length + (i - h.length) = i by omega] at hb
      obtain ⟨q1, q2⟩ := he.new i m rw c (by rw [hr.len]; omega) hm hb
      exact .inr ⟨by omega, hb, q1, q2.resolve_left not_wr_still⟩
  refine ⟨μ', ⟨⟨hμ, ?_, ?_, ?_, ?_, ?_⟩, he.pre, he.fr.mono fun k hk => absurd hk not_wr_still, fun j rw c hj hb => ?_, fun i m rw c hi hm hb => ?_, fun k cur hk => (he.zn k cur hk).imp id (Or.imp (fun hk => absurd hk not_wr_still) id)⟩, hcv⟩
  · intro i m rw c hm hb p x hx
    rcases cases2 i m rw c hm hb with ⟨_, q1, q2⟩ | ⟨_, q2, _, _⟩
    · obtain ⟨u, q3, q4⟩ := hold.cell i m rw c q1 q2 p x hx
      exact ⟨u, q3, q4.pre he.pre⟩
    · exact he.rel.cell i m rw c hm q2 p x hx
  · intro i m c hm hb
    rcases cases2 i m true c hm hb with ⟨_, q1, q2⟩ | ⟨_, q2, _, _⟩
    · exact hold.own i m c q1 q2
    · exact he.rel.own i m c hm q2
  · intro i m rw c hm hb hl
    rcases cases2 i m rw c hm hb with ⟨_, q1, q2⟩ | ⟨_, q2, _, _⟩
    · exact hold.lt i m rw c q1 q2 hl
    · exact he.rel.lt i m rw c hm q2 hl
  · intro i j m n c rw d hne hm hn hb hd hl
    rcases cases2 i m true c hm hb with ⟨_, q1, q2⟩ | ⟨_, q2, _, q3⟩ <;> rcases cases2 j n rw d hn hd with ⟨_, s1, s2⟩ | ⟨_, s2, s3, s4⟩
    · exact hold.sep i j m n c rw d hne q1 s1 q2 s2 hl
    · have := hr.lt i m _ c q1 q2 (.inl rfl); omega
    · have := hr.lt j n _ d s1 s2 hl; omega
    · exact he.rel.sep i j m n c rw d hne hm hn q2 s2 hl
  · intro k cur hk
    refine ⟨(he.rel.fz k cur hk).1, fun i m c hm hb => ?_⟩
    rcases cases2 i m true c hm hb with ⟨_, q1, q2⟩ | ⟨_, q2, _, _⟩
    · rcases he.zn k cur hk with h5 | h5 | h5
      · exact (hr.fz k cur h5).2 i m c q1 q2
      · exact absurd h5 not_wr_still
      · have := hr.lt i m _ c q1 q2 (.inl rfl); omega
    · exact (he.rel.fz k cur hk).2 i m c hm q2
  · rw [List.getElem?_append_left (by rw [← hr.len]; exact hj)] at hb
    exact ⟨c, hb, id⟩
  · rcases cases2 i m rw c hm hb with ⟨q0, q1, q2⟩ | ⟨_, q2, q3, q4⟩
    · rw [hr.len] at hi; omega
    · exact ⟨q3, .inr q4⟩

theorem call_ok {o : Oper} {t : List V} {h h' : H} {v : V} {f : Operand} {args : Array Operand} {ts : Array TypeId} {fid : FuncId} (ho : o.op = .call ⟨.value f, args, ts⟩) (hf : ev t f = .fn fid)
    (hc : ∀ (μ : Mu) (w : World) (cvs : List Value), Rel μ h w → RepVs μ (args.toList.map (ev t)) cvs → CallRes P fid cvs w fun cv w' => Goes μ h w v h' cv w') : OpOk P o t h v h' := by
  intro μ a w hρ hr K Q hK
  have hfv := hρ f (by rw [ho]; simp [Op.operands, Call.operands])
  rw [hf] at hfv
  have hfv' : a.eval f = .func (.func fid) #[] #[] := hfv
  have hargs := RepVs_of (xs := args.toList) (t := t) (ρ := a.eval) (μ := μ) (fun x hx => hρ x (by rw [ho]; simp [Op.operands, Call.operands]; right; simpa using hx))
  have hex : (execOp a.eval o).run P w = (callFunc fid ⟨args.toList.map a.eval⟩).run P w := by
    unfold execOp
    rw [ho]
    simp only [resolve, hfv', Deferred.ofValue, Sem.run_bind, Sem.run_pure, Result.andThen, invoke]
    congr 2
    apply Array.toList_inj.1
    simp
  unfold Oper.wp
  rw [hex]
  rcases hc μ w _ hr hargs with ⟨h1, h2⟩ | ⟨cv, w', h1, h2⟩
  · rw [h1]
    refine Calls.mono h2 fun e w' ⟨cv, h3, h4⟩ => ?_
    subst h3
    exact hK cv w' h4
  · rw [h1]
    exact hK cv w' h2

end
end Go.Proofs.Ytlopdogjdfeikaa.Ab
