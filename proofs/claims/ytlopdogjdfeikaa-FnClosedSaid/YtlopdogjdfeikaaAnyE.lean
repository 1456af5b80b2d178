/- Code that runs beside maps: regions that are told apart, and all others. Only lemmas. -/
import Derived.Test.YtlopdogjdfeikaaMap
namespace Go.Proofs.Ytlopdogjdfeikaa.Ab
set_option linter.unusedVariables false
set_option linter.unusedSimpArgs false
open Go

abbrev GsA := Nat → Option (St → Option (Bool × St))
def execA {R : Type} (ty : Ty) (fns : Fns) (an : Ann) (gs : GsA) (N k : Nat) : Code → St → (X → St → Option R) → Option R
  | .skip, st, K => K .norm st
  | .label _, st, K => K .norm st
  | .region id ops draw, st, K =>
    match gs id with
    | some g => match g st with
      | some (c, st') => match c with
        | true => K .norm st'
        | false => none
      | none => none
    | none =>
      match draw with
      | true => match drawOk (an.cl id) ops with
        | true => opsK ty fns (an.cl id) ops 0 ops.toList st.t (hide st.h) fun t h => K .norm ⟨t, unhide st.h h⟩
        | false => none
      | false => opsK ty fns (fun _ => .plain) ops 0 ops.toList st.t (hide st.h) fun t h => K .norm ⟨t, unhide st.h h⟩
  | .seq a b, st, K => execA ty fns an gs N k a st fun x st => match x with
    | .norm => execA ty fns an gs N k b st K
    | x => K x st
  | .cond c a b, st, K => match ev st.t c with
    | .bool p => match p with
      | true => execA ty fns an gs N k a st K
      | false => execA ty fns an gs N k b st K
    | _ => none
  | .block id b, st, K => execA ty fns an gs N k b st fun x st => match x with
    | .exit j => match decide (j = id) with
      | true => K .norm st
      | false => K (.exit j) st
    | x => K x st
  | .loop b, st, K => loopK k ((firstRegion b).bind an.keep) (fun st K => execA ty fns an gs N k b st K) N st K
  | .exit id, st, K => K (.exit id) st
  | .ret, st, K => K .ret st
  | _, _, _ => none
def runA (ty : Ty) (fns : Fns) (an : Ann) (gs : GsA) (N : Nat) (fn : Func) (vs : List V) (h : H) : Option (V × H) :=
  match fn.body with
  | none => none
  | some code => execA ty fns an gs N h.length code ⟨vs ++ List.replicate (fn.ntmps - vs.length) V.no, h⟩ fun x st => match x with
    | .exit _ => none
    | _ => finish ty fn h.length ⟨st.t, hide st.h⟩

section
variable {P : Program} {R : Type} {r : R}
/-- What is told of a region holds. -/
def GSoundA (P : Program) (id : Nat) (ops : Array Oper) (draw : Bool) (g : St → Option (Bool × St)) : Prop :=
  ∀ (μ0 : Mu) (h0 : H) (w0 : World) (st st' : St), g st = some (true, st') → ∀ (Q : Exit → Act → World → Prop), (∀ μ a w, InvM μ0 h0 w0 μ st' a w → Q .normal a w) → ∀ μ a w, InvM μ0 h0 w0 μ st a w → (Code.region id ops draw).wp P Q a w
def RegOkA (P : Program) (gs : GsA) : Code → Prop
  | .region id ops draw => match gs id with | some g => GSoundA P id ops draw g | none => True
  | .seq a b => RegOkA P gs a ∧ RegOkA P gs b
  | .cond _ a b => RegOkA P gs a ∧ RegOkA P gs b
  | .block _ b => RegOkA P gs b
  | .loop b => RegOkA P gs b
  | _ => True

theorem loopA_ok {μ0 : Mu} {h0 : H} {w0 : World} {kp : Option (List Nat × List Nat)} {c : Code} {body : St → (X → St → Option R) → Option R} {Q : Exit → Act → World → Prop}
    (hbody : ∀ {st : St} {K : X → St → Option R}, body st K = some r → ∀ Q', (∀ x st', K x st' = some r → ∀ μ a w, InvM μ0 h0 w0 μ st' a w → Q' (X.to x) a w) → ∀ μ a w, InvM μ0 h0 w0 μ st a w → c.wp P Q' a w)
    {K : X → St → Option R} (hQ : ∀ x st', K x st' = some r → ∀ μ a w, InvM μ0 h0 w0 μ st' a w → Q (X.to x) a w) :
    ∀ {n : Nat} {st : St}, loopH μ0.l.length kp body n st K = some r → ∀ μ a w, InvM μ0 h0 w0 μ st a w → Code.rounds P c Q n a w
  | 0, st, e, _, _, _, _ => by cases e
  | n + 1, st, e, μ, a, w, hi => by
    simp only [loopH] at e
    refine hbody e _ (fun x st' hx μ' a' w' hi' => ?_) μ a w hi
    cases x with
    | norm =>
      simp only at hx
      obtain ⟨st2, h1, h2⟩ := tidyM_ok (h0 := h0) (w0 := w0) hx
      obtain ⟨μ2, hi2⟩ := h2 μ' a' w' hi'
      exact loopA_ok hbody hQ h1 μ2 a' w' hi2
    | exit id =>
      simp only at hx
      obtain ⟨st2, h1, h2⟩ := tidyM_ok (h0 := h0) (w0 := w0) hx
      obtain ⟨μ2, hi2⟩ := h2 μ' a' w' hi'
      exact hQ _ st2 h1 μ2 a' w' hi2
    | ret =>
      simp only at hx
      obtain ⟨st2, h1, h2⟩ := tidyM_ok (h0 := h0) (w0 := w0) hx
      obtain ⟨μ2, hi2⟩ := h2 μ' a' w' hi'
      exact hQ _ st2 h1 μ2 a' w' hi2

theorem InvM.drewA {μ0 μ : Mu} {h0 : H} {w0 w : World} {st : St} {a : Act} (hi : InvM μ0 h0 w0 μ st a w) (n : Nat) : InvM μ0 h0 w0 μ st a (w.drewN n) :=
  ⟨⟨hi.inv.slots, hi.inv.defers, hi.inv.ev.trans (Ev.drewN hi.inv.ev.rel n)⟩, fun i m L hm hb => by
    obtain ⟨h1, h2, h3, h4, h5⟩ := hi.maps i m L hm hb
    exact ⟨h1, h2, h3, h4, h5⟩⟩

theorem execA_ok {ty : Ty} (hty : TyOk P ty) {fns : Fns} (hfn : ∀ f, FnT P f (fns f)) (hm : P.follows .mixedOrders = true) {an : Ann} {gs : GsA} {N : Nat} {μ0 : Mu} {h0 : H} {w0 : World} :
    ∀ (c : Code), RegOkA P gs c → ∀ {st : St} {K : X → St → Option R}, execA ty fns an gs N μ0.l.length c st K = some r →
      ∀ Q, (∀ x st', K x st' = some r → ∀ μ a w, InvM μ0 h0 w0 μ st' a w → Q (X.to x) a w) → ∀ μ a w, InvM μ0 h0 w0 μ st a w → c.wp P Q a w := by
  intro c
  induction c with
  | skip => intro _ st K e Q hQ μ a w hi; exact wp_skip (hQ .norm st e μ a w hi)
  | label l => intro _ st K e Q hQ μ a w hi; exact wp_label (hQ .norm st e μ a w hi)
  | region id ops draw =>
    intro hg st K e Q hQ μ a w hi
    simp only [execA] at e
    simp only [RegOkA] at hg
    cases hgs : gs id with
    | some g =>
      rw [hgs] at e hg
      simp only at e hg
      cases hgst : g st with
      | none => rw [hgst] at e; cases e
      | some p =>
        obtain ⟨c, st'⟩ := p
        rw [hgst] at e
        cases c with
        | false => cases e
        | true => exact hg μ0 h0 w0 st st' hgst Q (fun μ a w hi => hQ .norm st' e μ a w hi) μ a w hi
    | none =>
      rw [hgs] at e
      simp only at e
      have start : ∀ w', InvM μ0 h0 w0 μ st a w' → Inv μ (hide st.h) w' μ ⟨st.t, hide st.h⟩ a w' := fun w' hi' => ⟨hi'.inv.slots, hi'.inv.defers, Ev.refl hi'.inv.ev.rel⟩
      split at e
      · split at e
        · rename_i hok
          obtain ⟨t', h', h1, h2⟩ := opsK_lex hty hfn e
          exact wp_region_any hm (draw_wp (fun μ' a' w' hj => hQ .norm _ h1 μ' a' w' ((hi.drewA 1).past hj)) hok h2 (start _ (hi.drewA 1)))
        · cases e
      · obtain ⟨t', h', h1, h2⟩ := opsK_lex hty hfn e
        exact wp_region_list (lex_wp (fun μ' a' w' hj => hQ .norm _ h1 μ' a' w' (hi.past hj)) h2 (start _ hi))
  | seq x y ihx ihy =>
    intro hg st K e Q hQ μ a w hi
    simp only [execA] at e
    refine wp_seq (ihx hg.1 e _ (fun x st' hx μ' a' w' hi' => ?_) μ a w hi)
    cases x with
    | norm => exact ihy hg.2 hx Q hQ μ' a' w' hi'
    | exit id => exact hQ _ st' hx μ' a' w' hi'
    | ret => exact hQ _ st' hx μ' a' w' hi'
  | cond c x y ihx ihy =>
    intro hg st K e Q hQ μ a w hi
    simp only [execA] at e
    split at e
    · rename_i p hc
      have h1 := ev_rep hi.inv.slots c
      rw [hc] at h1
      split at e
      · exact wp_cond_true (repBool h1) (ihx hg.1 e Q hQ μ a w hi)
      · exact wp_cond_false (repBool h1) (ihy hg.2 e Q hQ μ a w hi)
    · cases e
  | block id b ih =>
    intro hg st K e Q hQ μ a w hi
    simp only [execA] at e
    refine wp_block (ih hg e _ (fun x st' hx μ' a' w' hi' => ?_) μ a w hi)
    cases x with
    | norm => exact hQ _ st' hx μ' a' w' hi'
    | exit j =>
      simp only at hx
      simp only [X.to, Exit.inBlock]
      split at hx
      · rename_i hj
        simp only [decide_eq_true_eq] at hj
        rw [if_pos hj]
        exact hQ _ st' hx μ' a' w' hi'
      · rename_i hj
        simp only [decide_eq_false_iff_not] at hj
        rw [if_neg hj]
        exact hQ _ st' hx μ' a' w' hi'
    | ret => exact hQ _ st' hx μ' a' w' hi'
  | loop b ih =>
    intro hg st K e Q hQ μ a w hi
    simp only [execA, loopK] at e
    obtain ⟨st', h1, h2⟩ := tidyM_ok (h0 := h0) (w0 := w0) e
    obtain ⟨μ', hi'⟩ := h2 μ a w hi
    exact wp_loop_rounds N (loopA_ok (fun hb Q' hQ' => ih hg hb Q' hQ') hQ h1 μ' a w hi')
  | rangeFunc f ps x y _ _ => intro _ st K e; simp only [execA] at e; cases e
  | exit id => intro _ st K e Q hQ μ a w hi; exact wp_exit (hQ (.exit id) st e μ a w hi)
  | scope b _ => intro _ st K e; simp only [execA] at e; cases e
  | goto l => intro _ st K e; simp only [execA] at e; cases e
  | ret => intro _ st K e Q hQ μ a w hi; exact wp_ret (hQ .ret st e μ a w hi)
  | refuse s => intro _ st K e; simp only [execA] at e; cases e

/-- A function that makes maps for itself. -/
theorem fnMA_ok {ty : Ty} (hty : TyOk P ty) {fns : Fns} (hfn : ∀ f, FnT P f (fns f)) (hm : P.follows .mixedOrders = true) {f : FuncId} {fn : Func} {code : Code} (hf : P.funcs[f]? = some fn) (hb : fn.body = some code)
    (hname : (fn.name == "runtime.NumGoroutine") = false) {g : List V → H → T} (an : Ann) (gs : GsA) (hgs : RegOkA P gs code)
    (H : ∀ vs h v h', (g vs h).run = some (v, h') → h = [] ∧ ∃ N, runA ty fns an gs N fn vs h = some (v, h')) : FnT P f g := by
  intro vs h v h' hg μ w cvs hr hv
  left
  obtain ⟨rfl, N, hrun⟩ := H vs h v h' hg
  refine ⟨?_, ?_⟩
  · have hname' : ¬ (fn.name = "runtime.NumGoroutine") := by simpa using hname
    simp [callFunc, hf, hname', hb]
  · refine calls_of_wp hf hb ?_
    unfold runA at hrun
    rw [hb] at hrun
    dsimp only at hrun
    rw [← hr.len] at hrun
    obtain ⟨hlen, hnth⟩ := repVs_nth (n := fn.ntmps - vs.length) hv
    have hinv : InvM μ [] w μ ⟨vs ++ List.replicate (fn.ntmps - vs.length) V.no, []⟩ { tmps := ⟨cvs⟩ ++ Array.replicate (fn.ntmps - (⟨cvs⟩ : Array Value).size) undef, defers := [] } w := by
      refine ⟨⟨⟨by simp [hlen], fun i => ?_⟩, rfl, Ev.refl hr⟩, fun i m L _ hb => by simp at hb⟩
      have := hnth i
      rw [Array.getD_eq_getD_getElem?]
      have e : ((⟨cvs⟩ : Array Value) ++ Array.replicate (fn.ntmps - (⟨cvs⟩ : Array Value).size) undef)[i]? = (cvs ++ List.replicate (fn.ntmps - vs.length) undef)[i]? := by
        rw [← Array.getElem?_toList, Array.toList_append, Array.toList_replicate]
        rw [show (⟨cvs⟩ : Array Value).size = vs.length from hlen.symm]
      rw [e]
      exact this
    have hend := finish_ok (P := P) (fn := fn) (μ := μ) (h := []) (w := w) (v := v) (h' := h') hty
    refine execA_ok hty hfn hm code hgs hrun _ (fun x st' hx μ' a' w' hi' => ?_) μ _ w hinv
    cases x with
    | norm => exact hend _ a' w' hx μ' hi'.inv
    | exit id => cases hx
    | ret => exact hend _ a' w' hx μ' hi'.inv
end
end Go.Proofs.Ytlopdogjdfeikaa.Ab
