/- What the proof names: lemmas and words, merged by a program from its parts. No condition. -/
import Derived.Test.YtpeplbbphpamhaaZ5
import Derived.LoopN
namespace Go.Proofs.Ytpeplbbphpamhaa.Ab
set_option linter.unusedVariables false
set_option linter.unusedSimpArgs false
open Go
def X.to : X → Exit
  | .norm => .normal
  | .exit id => .exit id
  | .ret => .ret
section
variable {P : Program} {R : Type} {r : R}
theorem mask_nth {keep : List Nat} : ∀ {t : List V} {n i : Nat}, nth (mask keep n t) i = nth t i ∨ nth (mask keep n t) i = V.any
  | [], _, _ => .inl rfl
  | v :: t, n, 0 => by simp only [mask, nth]; split; exact .inl rfl; exact .inr rfl
  | v :: t, n, i + 1 => mask_nth (t := t)
theorem mask_len {keep : List Nat} : ∀ {t : List V} {n : Nat}, (mask keep n t).length = t.length
  | [], _ => rfl
  | v :: t, n => by simp [mask, mask_len]
theorem nth_ren {ids : List Nat} {μ μ' : Mu} (hs : Sub ids μ μ') : ∀ {t t' : List V}, optMap (V.ren ids) t = some t' → ∀ {i : Nat} {cv : Value}, RepV μ (nth t i) cv → RepV μ' (nth t' i) cv
  | [], t', e, i, cv, h => by
    cases e
    obtain ⟨cs, rfl, hh⟩ := h
    refine ⟨cs, rfl, ?_⟩
    cases cs with
    | nil => trivial
    | cons _ _ => exact hh.elim
  | v :: t, t', e, i, cv, h => by
    obtain ⟨y, m, e1, e2, rfl⟩ := optMap_cons e
    cases i with
    | zero => exact RepV.ren hs e1 h
    | succ i => exact nth_ren hs e2 h
theorem tidy_ok {μ0 : Mu} {h0 : H} {w0 : World} {keep : Option (List Nat)} {st : St} {K : St → Option R} (e : tidyK μ0.l.length keep st K = some r) :
    ∃ st', K st' = some r ∧ ∀ μ a w, Inv μ0 h0 w0 μ st a w → ∃ μ', Inv μ0 h0 w0 μ' st' a w := by
  unfold tidyK at e
  split at e
  · exact ⟨st, e, fun μ a w hi => ⟨μ, hi⟩⟩
  · rename_i l
    dsimp only at e
    generalize ht : mask l 0 st.t = t at e
    generalize hids : close st.h 3 ((t.flatMap V.ids).foldl addNew (List.range μ0.l.length)) = ids at e
    split at e
    · cases e
    · rename_i t' ht'
      split at e
      · cases e
      · rename_i h' hh'
        refine ⟨_, e, fun μ a w hi => ?_⟩
        have hn : ids.Nodup := by rw [← hids]; exact close_nodup _ 3 (foldAdd_nodup _ List.nodup_range)
        have hp : ∃ p, ids = List.range μ0.l.length ++ p := by
          obtain ⟨p, hp⟩ := foldAdd_pre (t.flatMap V.ids) (List.range μ0.l.length)
          obtain ⟨q, hq⟩ := close_pre st.h 3 ((t.flatMap V.ids).foldl addNew (List.range μ0.l.length))
          exact ⟨p ++ q, by rw [← hids, hq, hp, List.append_assoc]⟩
        obtain ⟨p, hp⟩ := hp
        obtain ⟨h1, h2⟩ := hi.ev.pick hp hn hh'
        refine ⟨pick μ ids, ⟨?_, fun i => ?_⟩, hi.defers, h1⟩
        · rw [hi.slots.1, optMap_len ht', ← ht, mask_len]
        · refine nth_ren h2 ht' ?_
          rw [← ht]
          rcases mask_nth (keep := l) (t := st.t) (n := 0) (i := i) with h3 | h3
          · rw [h3]; exact hi.slots.2 i
          · rw [h3]; trivial
theorem loopH_ok {μ0 : Mu} {h0 : H} {w0 : World} {kp : Option (List Nat × List Nat)} {c : Code} {body : St → (X → St → Option R) → Option R} {Q : Exit → Act → World → Prop}
    (hbody : ∀ {st : St} {K : X → St → Option R}, body st K = some r → ∀ Q', (∀ x st', K x st' = some r → ∀ μ a w, Inv μ0 h0 w0 μ st' a w → Q' (X.to x) a w) → ∀ μ a w, Inv μ0 h0 w0 μ st a w → c.wp P Q' a w)
    {K : X → St → Option R} (hQ : ∀ x st', K x st' = some r → ∀ μ a w, Inv μ0 h0 w0 μ st' a w → Q (X.to x) a w) :
    ∀ {n : Nat} {st : St}, loopH μ0.l.length kp body n st K = some r → ∀ μ a w, Inv μ0 h0 w0 μ st a w → Code.rounds P c Q n a w
  | 0, st, e, _, _, _, _ => by cases e
  | n + 1, st, e, μ, a, w, hi => by
    simp only [loopH] at e
    refine hbody e _ (fun x st' hx μ' a' w' hi' => ?_) μ a w hi
    cases x with
    | norm =>
      simp only at hx
      obtain ⟨st2, h1, h2⟩ := tidy_ok (h0 := h0) (w0 := w0) hx
      obtain ⟨μ2, hi2⟩ := h2 μ' a' w' hi'
      exact loopH_ok hbody hQ h1 μ2 a' w' hi2
    | exit id =>
      simp only at hx
      obtain ⟨st2, h1, h2⟩ := tidy_ok (h0 := h0) (w0 := w0) hx
      obtain ⟨μ2, hi2⟩ := h2 μ' a' w' hi'
      exact hQ _ st2 h1 μ2 a' w' hi2
    | ret =>
      simp only at hx
      obtain ⟨st2, h1, h2⟩ := tidy_ok (h0 := h0) (w0 := w0) hx
      obtain ⟨μ2, hi2⟩ := h2 μ' a' w' hi'
      exact hQ _ st2 h1 μ2 a' w' hi2
theorem exec_ok {ty : Ty} (hty : TyOk P ty) {fns : Fns} (hfn : ∀ f, FnT P f (fns f)) (hm : P.follows .mixedOrders = true) {an : Ann} {N : Nat} {μ0 : Mu} {h0 : H} {w0 : World} :
    ∀ (c : Code) {st : St} {K : X → St → Option R}, exec ty fns an N μ0.l.length c st K = some r →
      ∀ Q, (∀ x st', K x st' = some r → ∀ μ a w, Inv μ0 h0 w0 μ st' a w → Q (X.to x) a w) → ∀ μ a w, Inv μ0 h0 w0 μ st a w → c.wp P Q a w := by
  intro c
  induction c with
  | skip => intro st K e Q hQ μ a w hi; exact wp_skip (hQ .norm st e μ a w hi)
  | label l => intro st K e Q hQ μ a w hi; exact wp_label (hQ .norm st e μ a w hi)
  | region id ops draw =>
    intro st K e Q hQ μ a w hi
    simp only [exec] at e
    split at e
    · split at e
      · rename_i hok
        obtain ⟨t', h', h1, h2⟩ := opsK_lex hty hfn e
        exact wp_region_any hm (draw_wp (fun μ a w hi => hQ .norm _ h1 μ a w hi) hok h2 ⟨hi.slots, hi.defers, hi.ev.trans (Ev.drewN hi.ev.rel 1)⟩)
      · cases e
    · obtain ⟨t', h', h1, h2⟩ := opsK_lex hty hfn e
      exact wp_region_list (lex_wp (fun μ a w hi => hQ .norm _ h1 μ a w hi) h2 hi)
  | seq x y ihx ihy =>
    intro st K e Q hQ μ a w hi
    simp only [exec] at e
    refine wp_seq (ihx e _ (fun x st' hx μ' a' w' hi' => ?_) μ a w hi)
    cases x with
    | norm => exact ihy hx Q hQ μ' a' w' hi'
    | exit id => exact hQ _ st' hx μ' a' w' hi'
    | ret => exact hQ _ st' hx μ' a' w' hi'
  | cond c x y ihx ihy =>
    intro st K e Q hQ μ a w hi
    simp only [exec] at e
    split at e
    · rename_i p hc
      have h1 := ev_rep hi.slots c
      rw [hc] at h1
      split at e
      · exact wp_cond_true (repBool h1) (ihx e Q hQ μ a w hi)
      · exact wp_cond_false (repBool h1) (ihy e Q hQ μ a w hi)
    · cases e
  | block id b ih =>
    intro st K e Q hQ μ a w hi
    simp only [exec] at e
    refine wp_block (ih e _ (fun x st' hx μ' a' w' hi' => ?_) μ a w hi)
    cases x with
    | norm => exact hQ _ st' hx μ' a' w' hi'
    | exit j =>
      simp only at hx
      simp only [X.to, Exit.inBlock]
      split at hx
      · rename_i hj
        simp only [decide_eq_true_eq] at hj
        rw [if_pos hj]
        exact hQ _ st' hx μ' a' w' hi'
      · rename_i hj
        simp only [decide_eq_false_iff_not] at hj
        rw [if_neg hj]
        exact hQ _ st' hx μ' a' w' hi'
    | ret => exact hQ _ st' hx μ' a' w' hi'
  | loop b ih =>
    intro st K e Q hQ μ a w hi
    simp only [exec, loopK] at e
    obtain ⟨st', h1, h2⟩ := tidy_ok (h0 := h0) (w0 := w0) e
    obtain ⟨μ', hi'⟩ := h2 μ a w hi
    exact wp_loop_rounds _ (loopH_ok (fun hb Q' hQ' => ih hb Q' hQ') hQ h1 μ' a w hi')
  | rangeFunc f ps x y _ _ => intro st K e; simp only [exec] at e; cases e
  | exit id => intro st K e Q hQ μ a w hi; exact wp_exit (hQ (.exit id) st e μ a w hi)
  | scope b _ => intro st K e; simp only [exec] at e; cases e
  | goto l => intro st K e; simp only [exec] at e; cases e
  | ret => intro st K e Q hQ μ a w hi; exact wp_ret (hQ .ret st e μ a w hi)
  | refuse s => intro st K e; simp only [exec] at e; cases e
theorem repVs_nth {μ : Mu} {n : Nat} : ∀ {vs : List V} {cvs : List Value}, RepVs μ vs cvs → vs.length = cvs.length ∧ ∀ i, RepV μ (nth (vs ++ List.replicate n V.no) i) (((cvs ++ List.replicate n undef)[i]?).getD undef)
  | [], [], _ => ⟨rfl, fun i => by
      have : ∀ (n i : Nat), nth (List.replicate n V.no) i = V.no := by
        intro n
        induction n with
        | zero => intro i; rfl
        | succ n ih => intro i; cases i with | zero => rfl | succ i => exact ih i
      simp only [List.nil_append, this]
      have : ((List.replicate n undef)[i]?).getD undef = undef := by rw [List.getElem?_replicate]; split <;> rfl
      rw [this]
      exact RepV.no μ⟩
  | v :: vs, c :: cvs, h => by
    obtain ⟨h1, h2⟩ := repVs_nth (n := n) h.2
    refine ⟨by simp [h1], fun i => ?_⟩
    cases i with
    | zero => exact h.1
    | succ i => exact h2 i
theorem finish_ok {ty : Ty} (hty : TyOk P ty) {fn : Func} {μ : Mu} {h : H} {w : World} {v : V} {h' : H} :
    ∀ st a w', finish ty fn μ.l.length st = some (v, h') → ∀ μ', Inv μ h w μ' st a w' → a.defers = [] ∧ ∃ cv, (results fn a.tmps).run P w' = .ok cv w' ∧ ∃ cv', Ending.returned cv = .returned cv' ∧ Goes μ h w v h' cv' w' := by
  intro st a w' hfin μ' hi
  refine ⟨hi.defers, ?_⟩
  unfold finish at hfin
  split at hfin
  · cases hfin
  · rename_i u hu
    dsimp only at hfin
    generalize hids : close st.h 3 ((u.ids).foldl addNew (List.range μ.l.length)) = ids at hfin
    split at hfin
    · cases hfin
    · rename_i u' hu'
      split at hfin
      · cases hfin
      · rename_i h2 hh2
        cases hfin
        have hn : ids.Nodup := by rw [← hids]; exact close_nodup _ 3 (foldAdd_nodup _ List.nodup_range)
        obtain ⟨p, hp⟩ : ∃ p, ids = List.range μ.l.length ++ p := by
          obtain ⟨p, hp⟩ := foldAdd_pre u.ids (List.range μ.l.length)
          obtain ⟨q, hq⟩ := close_pre st.h 3 ((u.ids).foldl addNew (List.range μ.l.length))
          exact ⟨p ++ q, by rw [← hids, hq, hp, List.append_assoc]⟩
        obtain ⟨k1, k2⟩ := hi.ev.pick hp hn hh2
        have hres : ∃ cv, (results fn a.tmps).run P w' = .ok cv w' ∧ RepV μ' u cv := by
          unfold resOf at hu
          split at hu
          · rename_i rr hrr
            cases hu
            have hrr' : fn.results = #[.tmp rr] := by apply Array.toList_inj.1; simpa using hrr
            exact ⟨_, results_tmp hrr' _ _ _, hi.slots.2 rr⟩
          · rename_i bb tt hrr
            have hrr' : fn.results = #[.cell bb tt] := by apply Array.toList_inj.1; simpa using hrr
            obtain ⟨v2, hv2, hall⟩ := loadVar_run hty hu
            cases hv2
            obtain ⟨cv, q1, q2⟩ := hall μ' _ (hi.slots.2 bb) w' hi.ev.rel
            refine ⟨cv, ?_, q2⟩
            unfold results
            rw [hrr', Array.mapM_eq_mapM_toList]
            simp only [List.mapM_cons, List.mapM_nil]
            simp only [Sem.run_bind, Sem.run_map, Sem.run_pure, Result.andThen] at q1 ⊢
            rw [q1]
            simp
          · rename_i hnot hnot2
            simp only [Option.map_eq_some_iff] at hu
            obtain ⟨us, hus, rfl⟩ := hu
            have key : ∀ (l : List ResultVar) (us : List U), optMap (fun r => match r with | .tmp r => (match nth st.t r with | .u x => some x | _ => none) | .cell b tt => (match loadK ty st.h tt (nth st.t b) some with | some (.u x) => some x | _ => none)) l = some us →
                ∃ cs : List Value, (l.mapM (fun (x : ResultVar) => match x with | .tmp t => (pure (a.tmps.getD t undef) : Sem Value) | .cell b t => (do loadVar t (← asAddr (a.tmps.getD b undef)) : Sem Value)) : Sem (List Value)).run P w' = .ok cs w' ∧ RepUs μ' us cs ∧ cs.length = l.length := by
              intro l
              induction l with
              | nil => intro us e; cases e; exact ⟨[], by simp, trivial, rfl⟩
              | cons x l ih =>
                intro us e
                obtain ⟨y, m, e1, e2, rfl⟩ := optMap_cons e
                obtain ⟨cs, q1, q2, q3⟩ := ih m e2
                cases x with
                | cell b t =>
                  simp only at e1
                  split at e1
                  · rename_i z hz
                    cases e1
                    obtain ⟨v2, hv2, hall⟩ := loadVar_run hty hz
                    cases hv2
                    obtain ⟨cv, r1, r2⟩ := hall μ' _ (hi.slots.2 b) w' hi.ev.rel
                    refine ⟨cv :: cs, ?_, ⟨r2, q2⟩, by simp [q3]⟩
                    rw [List.mapM_cons]
                    simp only [Sem.run_bind, Sem.run_pure, Result.andThen, q1] at r1 ⊢
                    rw [r1]
                    simp only [q1]
                  · cases e1
                | tmp b =>
                  simp only at e1
                  split at e1
                  · rename_i z hz
                    cases e1
                    have hs := hi.slots.2 b
                    rw [hz] at hs
                    refine ⟨a.tmps.getD b undef :: cs, ?_, ⟨hs, q2⟩, by simp [q3]⟩
                    rw [List.mapM_cons]
                    simp only [Sem.run_bind, Sem.run_pure, Result.andThen, q1]
                  · cases e1
            obtain ⟨cs, q1, q2, q3⟩ := key _ _ hus
            have hne : cs.length ≠ 1 := by
              intro h1
              rw [q3] at h1
              obtain ⟨x, hx⟩ := List.length_eq_one_iff.1 h1
              cases x with
              | tmp b => exact hnot b hx
              | cell b t => exact hnot2 b t hx
            refine ⟨.tuple ⟨cs⟩, ?_, ⟨cs, rfl, q2⟩⟩
            unfold results
            rw [Array.mapM_eq_mapM_toList]
            simp only [Sem.run_bind, Sem.run_map]
            erw [q1]
            simp only [Result.andThen]
            rw [dif_neg (by simpa using hne)]
            rfl
        obtain ⟨cv, q1, q2⟩ := hres
        exact ⟨cv, q1, cv, rfl, _, k1, q2.ren k2 hu'⟩
theorem fn_ok {ty : Ty} (hty : TyOk P ty) {fns : Fns} (hfn : ∀ f, FnT P f (fns f)) (hm : P.follows .mixedOrders = true) {f : FuncId} {fn : Func} {code : Code} (hf : P.funcs[f]? = some fn) (hb : fn.body = some code)
    (hname : (fn.name == "runtime.NumGoroutine") = false) {g : List V → H → T} (an : Ann)
    (H : ∀ vs h v h', (g vs h).run = some (v, h') → ∃ N, run ty fns an N fn vs h = some (v, h')) : FnT P f g := by
  intro vs h v h' hg μ w cvs hr hv
  left
  obtain ⟨N, hrun⟩ := H vs h v h' hg
  refine ⟨?_, ?_⟩
  · have hname' : ¬ (fn.name = "runtime.NumGoroutine") := by simpa using hname
    simp [callFunc, hf, hname', hb]
  · refine calls_of_wp hf hb ?_
    unfold run at hrun
    rw [hb] at hrun
    dsimp only at hrun
    rw [← hr.len] at hrun
    obtain ⟨hlen, hnth⟩ := repVs_nth (n := fn.ntmps - vs.length) hv
    have hinv : Inv μ h w μ ⟨vs ++ List.replicate (fn.ntmps - vs.length) V.no, h⟩ { tmps := ⟨cvs⟩ ++ Array.replicate (fn.ntmps - (⟨cvs⟩ : Array Value).size) undef, defers := [] } w := by
      refine ⟨⟨by simp [hlen], fun i => ?_⟩, rfl, Ev.refl hr⟩
      have := hnth i
      rw [Array.getD_eq_getD_getElem?]
      have e : ((⟨cvs⟩ : Array Value) ++ Array.replicate (fn.ntmps - (⟨cvs⟩ : Array Value).size) undef)[i]? = (cvs ++ List.replicate (fn.ntmps - vs.length) undef)[i]? := by
        rw [← Array.getElem?_toList, Array.toList_append, Array.toList_replicate]
        rw [show (⟨cvs⟩ : Array Value).size = vs.length from hlen.symm]
      rw [e]
      exact this
    have hend := finish_ok (P := P) (fn := fn) (μ := μ) (h := h) (w := w) (v := v) (h' := h') hty
    refine exec_ok hty hfn hm code hrun _ (fun x st' hx μ' a' w' hi' => ?_) μ _ w hinv
    cases x with
    | norm => exact hend st' a' w' hx μ' hi'
    | exit id => cases hx
    | ret => exact hend st' a' w' hx μ' hi'
end
end Go.Proofs.Ytpeplbbphpamhaa.Ab
