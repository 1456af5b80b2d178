/- What the proof names: lemmas and words, merged by a program from its parts. No condition. -/
import Derived.Test.YtdbmbelllghdcaaZ1
import Derived.LoopN
import Derived.Test.YtdbmbelllghdcaaProg
import Derived.KernelRfl
import Derived.Below
import Derived.ChangeSame
import Derived.ProofKit
import Derived.OpenShut
import Derived.Carry
import Derived.Laws.Externs
namespace Go.Proofs.Ytdbmbelllghdcaa.Ab
set_option linter.unusedVariables false
set_option linter.unusedSimpArgs false
open Go
def X.to : X → Exit
  | .norm => .normal
  | .exit id => .exit id
  | .ret => .ret
section
variable {P : Program} {R : Type} {r : R}
theorem mask_nth {keep : List Nat} : ∀ {t : List V} {n i : Nat}, nth (mask keep n t) i = nth t i ∨ nth (mask keep n t) i = V.any
  | [], _, _ => .inl rfl
  | v :: t, n, 0 => by simp only [mask, nth]; split; exact .inl rfl; exact .inr rfl
  | v :: t, n, i + 1 => mask_nth (t := t)
theorem mask_len {keep : List Nat} : ∀ {t : List V} {n : Nat}, (mask keep n t).length = t.length
  | [], _ => rfl
  | v :: t, n => by simp [mask, mask_len]
theorem nth_ren {ids : List Nat} {μ μ' : Mu} (hs : Sub ids μ μ') : ∀ {t t' : List V}, optMap (V.ren ids) t = some t' → ∀ {i : Nat} {cv : Value}, RepV μ (nth t i) cv → RepV μ' (nth t' i) cv
  | [], t', e, i, cv, h => by
    cases e
    obtain ⟨cs, rfl, hh⟩ := h
    refine ⟨cs, rfl, ?_⟩
    cases cs with
    | nil => trivial
    | cons _ _ => exact hh.elim
  | v :: t, t', e, i, cv, h => by
    obtain ⟨y, m, e1, e2, rfl⟩ := optMap_cons e
    cases i with
    | zero => exact RepV.ren hs e1 h
    | succ i => exact nth_ren hs e2 h
theorem tidy_ok {μ0 : Mu} {h0 : H} {w0 : World} {keep : Option (List Nat)} {st : St} {K : St → Option R} (e : tidyK μ0.l.length keep st K = some r) :
    ∃ st', K st' = some r ∧ ∀ μ a w, Inv μ0 h0 w0 μ st a w → ∃ μ', Inv μ0 h0 w0 μ' st' a w := by
  unfold tidyK at e
  split at e
  · exact ⟨st, e, fun μ a w hi => ⟨μ, hi⟩⟩
  · rename_i l
    dsimp only at e
    generalize ht : mask l 0 st.t = t at e
    generalize hids : close st.h 3 ((t.flatMap V.ids).foldl addNew (List.range μ0.l.length)) = ids at e
    split at e
    · cases e
    · rename_i t' ht'
      split at e
      · cases e
      · rename_i h' hh'
        refine ⟨_, e, fun μ a w hi => ?_⟩
        have hn : ids.Nodup := by rw [← hids]; exact close_nodup _ 3 (foldAdd_nodup _ List.nodup_range)
        have hp : ∃ p, ids = List.range μ0.l.length ++ p := by
          obtain ⟨p, hp⟩ := foldAdd_pre (t.flatMap V.ids) (List.range μ0.l.length)
          obtain ⟨q, hq⟩ := close_pre st.h 3 ((t.flatMap V.ids).foldl addNew (List.range μ0.l.length))
          exact ⟨p ++ q, by rw [← hids, hq, hp, List.append_assoc]⟩
        obtain ⟨p, hp⟩ := hp
        obtain ⟨h1, h2⟩ := hi.ev.pick hp hn hh'
        refine ⟨pick μ ids, ⟨?_, fun i => ?_⟩, hi.defers, h1⟩
        · rw [hi.slots.1, optMap_len ht', ← ht, mask_len]
        · refine nth_ren h2 ht' ?_
          rw [← ht]
          rcases mask_nth (keep := l) (t := st.t) (n := 0) (i := i) with h3 | h3
          · rw [h3]; exact hi.slots.2 i
          · rw [h3]; trivial
theorem loopH_ok {μ0 : Mu} {h0 : H} {w0 : World} {kp : Option (List Nat × List Nat)} {c : Code} {body : St → (X → St → Option R) → Option R} {Q : Exit → Act → World → Prop}
    (hbody : ∀ {st : St} {K : X → St → Option R}, body st K = some r → ∀ Q', (∀ x st', K x st' = some r → ∀ μ a w, Inv μ0 h0 w0 μ st' a w → Q' (X.to x) a w) → ∀ μ a w, Inv μ0 h0 w0 μ st a w → c.wp P Q' a w)
    {K : X → St → Option R} (hQ : ∀ x st', K x st' = some r → ∀ μ a w, Inv μ0 h0 w0 μ st' a w → Q (X.to x) a w) :
    ∀ {n : Nat} {st : St}, loopH μ0.l.length kp body n st K = some r → ∀ μ a w, Inv μ0 h0 w0 μ st a w → Code.rounds P c Q n a w
  | 0, st, e, _, _, _, _ => by cases e
  | n + 1, st, e, μ, a, w, hi => by
    simp only [loopH] at e
    refine hbody e _ (fun x st' hx μ' a' w' hi' => ?_) μ a w hi
    cases x with
    | norm =>
      simp only at hx
      obtain ⟨st2, h1, h2⟩ := tidy_ok (h0 := h0) (w0 := w0) hx
      obtain ⟨μ2, hi2⟩ := h2 μ' a' w' hi'
      exact loopH_ok hbody hQ h1 μ2 a' w' hi2
    | exit id =>
      simp only at hx
      obtain ⟨st2, h1, h2⟩ := tidy_ok (h0 := h0) (w0 := w0) hx
      obtain ⟨μ2, hi2⟩ := h2 μ' a' w' hi'
      exact hQ _ st2 h1 μ2 a' w' hi2
    | ret =>
      simp only at hx
      obtain ⟨st2, h1, h2⟩ := tidy_ok (h0 := h0) (w0 := w0) hx
      obtain ⟨μ2, hi2⟩ := h2 μ' a' w' hi'
      exact hQ _ st2 h1 μ2 a' w' hi2
theorem exec_ok {ty : Ty} (hty : TyOk P ty) {fns : Fns} (hfn : ∀ f, FnT P f (fns f)) (hm : P.follows .mixedOrders = true) {an : Ann} {N : Nat} {μ0 : Mu} {h0 : H} {w0 : World} :
    ∀ (c : Code) {st : St} {K : X → St → Option R}, exec ty fns an N μ0.l.length c st K = some r →
      ∀ Q, (∀ x st', K x st' = some r → ∀ μ a w, Inv μ0 h0 w0 μ st' a w → Q (X.to x) a w) → ∀ μ a w, Inv μ0 h0 w0 μ st a w → c.wp P Q a w := by
  intro c
  induction c with
  | skip => intro st K e Q hQ μ a w hi; exact wp_skip (hQ .norm st e μ a w hi)
  | label l => intro st K e Q hQ μ a w hi; exact wp_label (hQ .norm st e μ a w hi)
  | region id ops draw =>
    intro st K e Q hQ μ a w hi
    simp only [exec] at e
    split at e
    · split at e
      · rename_i hok
        obtain ⟨t', h', h1, h2⟩ := opsK_lex hty hfn e
        exact wp_region_any hm (draw_wp (fun μ a w hi => hQ .norm _ h1 μ a w hi) hok h2 ⟨hi.slots, hi.defers, hi.ev.trans (Ev.drewN hi.ev.rel 1)⟩)
      · cases e
    · obtain ⟨t', h', h1, h2⟩ := opsK_lex hty hfn e
      exact wp_region_list (lex_wp (fun μ a w hi => hQ .norm _ h1 μ a w hi) h2 hi)
  | seq x y ihx ihy =>
    intro st K e Q hQ μ a w hi
    simp only [exec] at e
    refine wp_seq (ihx e _ (fun x st' hx μ' a' w' hi' => ?_) μ a w hi)
    cases x with
    | norm => exact ihy hx Q hQ μ' a' w' hi'
    | exit id => exact hQ _ st' hx μ' a' w' hi'
    | ret => exact hQ _ st' hx μ' a' w' hi'
  | cond c x y ihx ihy =>
    intro st K e Q hQ μ a w hi
    simp only [exec] at e
    split at e
    · rename_i p hc
      have h1 := ev_rep hi.slots c
      rw [hc] at h1
      split at e
      · exact wp_cond_true (repBool h1) (ihx e Q hQ μ a w hi)
      · exact wp_cond_false (repBool h1) (ihy e Q hQ μ a w hi)
    · cases e
  | block id b ih =>
    intro st K e Q hQ μ a w hi
    simp only [exec] at e
    refine wp_block (ih e _ (fun x st' hx μ' a' w' hi' => ?_) μ a w hi)
    cases x with
    | norm => exact hQ _ st' hx μ' a' w' hi'
    | exit j =>
      simp only at hx
      simp only [X.to, Exit.inBlock]
      split at hx
      · rename_i hj
        simp only [decide_eq_true_eq] at hj
        rw [if_pos hj]
        exact hQ _ st' hx μ' a' w' hi'
      · rename_i hj
        simp only [decide_eq_false_iff_not] at hj
        rw [if_neg hj]
        exact hQ _ st' hx μ' a' w' hi'
    | ret => exact hQ _ st' hx μ' a' w' hi'
  | loop b ih =>
    intro st K e Q hQ μ a w hi
    simp only [exec, loopK] at e
    obtain ⟨st', h1, h2⟩ := tidy_ok (h0 := h0) (w0 := w0) e
    obtain ⟨μ', hi'⟩ := h2 μ a w hi
    exact wp_loop_rounds _ (loopH_ok (fun hb Q' hQ' => ih hb Q' hQ') hQ h1 μ' a w hi')
  | rangeFunc f ps x y _ _ => intro st K e; simp only [exec] at e; cases e
  | exit id => intro st K e Q hQ μ a w hi; exact wp_exit (hQ (.exit id) st e μ a w hi)
  | scope b _ => intro st K e; simp only [exec] at e; cases e
  | goto l => intro st K e; simp only [exec] at e; cases e
  | ret => intro st K e Q hQ μ a w hi; exact wp_ret (hQ .ret st e μ a w hi)
  | refuse s => intro st K e; simp only [exec] at e; cases e
theorem repVs_nth {μ : Mu} {n : Nat} : ∀ {vs : List V} {cvs : List Value}, RepVs μ vs cvs → vs.length = cvs.length ∧ ∀ i, RepV μ (nth (vs ++ List.replicate n V.no) i) (((cvs ++ List.replicate n undef)[i]?).getD undef)
  | [], [], _ => ⟨rfl, fun i => by
      have : ∀ (n i : Nat), nth (List.replicate n V.no) i = V.no := by
        intro n
        induction n with
        | zero => intro i; rfl
        | succ n ih => intro i; cases i with | zero => rfl | succ i => exact ih i
      simp only [List.nil_append, this]
      have : ((List.replicate n undef)[i]?).getD undef = undef := by rw [List.getElem?_replicate]; split <;> rfl
      rw [this]
      exact RepV.no μ⟩
  | v :: vs, c :: cvs, h => by
    obtain ⟨h1, h2⟩ := repVs_nth (n := n) h.2
    refine ⟨by simp [h1], fun i => ?_⟩
    cases i with
    | zero => exact h.1
    | succ i => exact h2 i
theorem finish_ok {ty : Ty} (hty : TyOk P ty) {fn : Func} {μ : Mu} {h : H} {w : World} {v : V} {h' : H} :
    ∀ st a w', finish ty fn μ.l.length st = some (v, h') → ∀ μ', Inv μ h w μ' st a w' → a.defers = [] ∧ ∃ cv, (results fn a.tmps).run P w' = .ok cv w' ∧ ∃ cv', Ending.returned cv = .returned cv' ∧ Goes μ h w v h' cv' w' := by
  intro st a w' hfin μ' hi
  refine ⟨hi.defers, ?_⟩
  unfold finish at hfin
  split at hfin
  · cases hfin
  · rename_i u hu
    dsimp only at hfin
    generalize hids : close st.h 3 ((u.ids).foldl addNew (List.range μ.l.length)) = ids at hfin
    split at hfin
    · cases hfin
    · rename_i u' hu'
      split at hfin
      · cases hfin
      · rename_i h2 hh2
        cases hfin
        have hn : ids.Nodup := by rw [← hids]; exact close_nodup _ 3 (foldAdd_nodup _ List.nodup_range)
        obtain ⟨p, hp⟩ : ∃ p, ids = List.range μ.l.length ++ p := by
          obtain ⟨p, hp⟩ := foldAdd_pre u.ids (List.range μ.l.length)
          obtain ⟨q, hq⟩ := close_pre st.h 3 ((u.ids).foldl addNew (List.range μ.l.length))
          exact ⟨p ++ q, by rw [← hids, hq, hp, List.append_assoc]⟩
        obtain ⟨k1, k2⟩ := hi.ev.pick hp hn hh2
        have hres : ∃ cv, (results fn a.tmps).run P w' = .ok cv w' ∧ RepV μ' u cv := by
          unfold resOf at hu
          split at hu
          · rename_i rr hrr
            cases hu
            have hrr' : fn.results = #[.tmp rr] := by apply Array.toList_inj.1; simpa using hrr
            exact ⟨_, results_tmp hrr' _ _ _, hi.slots.2 rr⟩
          · rename_i bb tt hrr
            have hrr' : fn.results = #[.cell bb tt] := by apply Array.toList_inj.1; simpa using hrr
            obtain ⟨v2, hv2, hall⟩ := loadVar_run hty hu
            cases hv2
            obtain ⟨cv, q1, q2⟩ := hall μ' _ (hi.slots.2 bb) w' hi.ev.rel
            refine ⟨cv, ?_, q2⟩
            unfold results
            rw [hrr', Array.mapM_eq_mapM_toList]
            simp only [List.mapM_cons, List.mapM_nil]
            simp only [Sem.run_bind, Sem.run_map, Sem.run_pure, Result.andThen] at q1 ⊢
            rw [q1]
            simp
          · rename_i hnot hnot2
            simp only [Option.map_eq_some_iff] at hu
            obtain ⟨us, hus, rfl⟩ := hu
            have key : ∀ (l : List ResultVar) (us : List U), optMap (fun r => match r with | .tmp r => (match nth st.t r with | .u x => some x | _ => none) | .cell b tt => (match loadK ty st.h tt (nth st.t b) some with | some (.u x) => some x | _ => none)) l = some us →
                ∃ cs : List Value, (l.mapM (fun (x : ResultVar) => match x with | .tmp t => (pure (a.tmps.getD t undef) : Sem Value) | .cell b t => (do loadVar t (← asAddr (a.tmps.getD b undef)) : Sem Value)) : Sem (List Value)).run P w' = .ok cs w' ∧ RepUs μ' us cs ∧ cs.length = l.length := by
              intro l
              induction l with
              | nil => intro us e; cases e; exact ⟨[], by simp, trivial, rfl⟩
              | cons x l ih =>
                intro us e
                obtain ⟨y, m, e1, e2, rfl⟩ := optMap_cons e
                obtain ⟨cs, q1, q2, q3⟩ := ih m e2
                cases x with
                | cell b t =>
                  simp only at e1
                  split at e1
                  · rename_i z hz
                    cases e1
                    obtain ⟨v2, hv2, hall⟩ := loadVar_run hty hz
                    cases hv2
                    obtain ⟨cv, r1, r2⟩ := hall μ' _ (hi.slots.2 b) w' hi.ev.rel
                    refine ⟨cv :: cs, ?_, ⟨r2, q2⟩, by simp [q3]⟩
                    rw [List.mapM_cons]
                    simp only [Sem.run_bind, Sem.run_pure, Result.andThen, q1] at r1 ⊢
                    rw [r1]
                    simp only [q1]
                  · cases e1
                | tmp b =>
                  simp only at e1
                  split at e1
                  · rename_i z hz
                    cases e1
                    have hs := hi.slots.2 b
                    rw [hz] at hs
                    refine ⟨a.tmps.getD b undef :: cs, ?_, ⟨hs, q2⟩, by simp [q3]⟩
                    rw [List.mapM_cons]
                    simp only [Sem.run_bind, Sem.run_pure, Result.andThen, q1]
                  · cases e1
            obtain ⟨cs, q1, q2, q3⟩ := key _ _ hus
            have hne : cs.length ≠ 1 := by
              intro h1
              rw [q3] at h1
              obtain ⟨x, hx⟩ := List.length_eq_one_iff.1 h1
              cases x with
              | tmp b => exact hnot b hx
              | cell b t => exact hnot2 b t hx
            refine ⟨.tuple ⟨cs⟩, ?_, ⟨cs, rfl, q2⟩⟩
            unfold results
            rw [Array.mapM_eq_mapM_toList]
            simp only [Sem.run_bind, Sem.run_map]
            erw [q1]
            simp only [Result.andThen]
            rw [dif_neg (by simpa using hne)]
            rfl
        obtain ⟨cv, q1, q2⟩ := hres
        exact ⟨cv, q1, cv, rfl, _, k1, q2.ren k2 hu'⟩
theorem fn_ok {ty : Ty} (hty : TyOk P ty) {fns : Fns} (hfn : ∀ f, FnT P f (fns f)) (hm : P.follows .mixedOrders = true) {f : FuncId} {fn : Func} {code : Code} (hf : P.funcs[f]? = some fn) (hb : fn.body = some code)
    (hname : (fn.name == "runtime.NumGoroutine") = false) {g : List V → H → T} (an : Ann)
    (H : ∀ vs h v h', (g vs h).run = some (v, h') → ∃ N, run ty fns an N fn vs h = some (v, h')) : FnT P f g := by
  intro vs h v h' hg μ w cvs hr hv
  left
  obtain ⟨N, hrun⟩ := H vs h v h' hg
  refine ⟨?_, ?_⟩
  · have hname' : ¬ (fn.name = "runtime.NumGoroutine") := by simpa using hname
    simp [callFunc, hf, hname', hb]
  · refine calls_of_wp hf hb ?_
    unfold run at hrun
    rw [hb] at hrun
    dsimp only at hrun
    rw [← hr.len] at hrun
    obtain ⟨hlen, hnth⟩ := repVs_nth (n := fn.ntmps - vs.length) hv
    have hinv : Inv μ h w μ ⟨vs ++ List.replicate (fn.ntmps - vs.length) V.no, h⟩ { tmps := ⟨cvs⟩ ++ Array.replicate (fn.ntmps - (⟨cvs⟩ : Array Value).size) undef, defers := [] } w := by
      refine ⟨⟨by simp [hlen], fun i => ?_⟩, rfl, Ev.refl hr⟩
      have := hnth i
      rw [Array.getD_eq_getD_getElem?]
      have e : ((⟨cvs⟩ : Array Value) ++ Array.replicate (fn.ntmps - (⟨cvs⟩ : Array Value).size) undef)[i]? = (cvs ++ List.replicate (fn.ntmps - vs.length) undef)[i]? := by
        rw [← Array.getElem?_toList, Array.toList_append, Array.toList_replicate]
        rw [show (⟨cvs⟩ : Array Value).size = vs.length from hlen.symm]
      rw [e]
      exact this
    have hend := finish_ok (P := P) (fn := fn) (μ := μ) (h := h) (w := w) (v := v) (h' := h') hty
    refine exec_ok hty hfn hm code hrun _ (fun x st' hx μ' a' w' hi' => ?_) μ _ w hinv
    cases x with
    | norm => exact hend st' a' w' hx μ' hi'
    | exit id => cases hx
    | ret => exact hend st' a' w' hx μ' hi'
end
end Go.Proofs.Ytdbmbelllghdcaa.Ab

namespace Go.Proofs.Ytdbmbelllghdcaa.Ab
set_option linter.unusedVariables false
set_option linter.unusedSimpArgs false
open Go
def tyTab : List (Option TyI) := [
  none,
  none,
  some ⟨false, 1, 8, [.int .i64 0], .int .i64⟩,
  some ⟨false, 1, 8, [.int .i64 0], .int .i64⟩,
  some ⟨false, 1, 1, [.bool false], .bool⟩,
  some ⟨false, 1, 1, [.int .u8 0], .int .u8⟩,
  none,
  none,
  none,
  none,
  none,
  none,
  none,
  none,
  none,
  none,
  none,
  none,
  none,
  none,
  none,
  some ⟨false, 1, 4, [.int .i32 0], .int .i32⟩,
  some ⟨false, 1, 24, [.nil], .slice 5⟩,
  none,
  some ⟨false, 1, 24, [.nil], .slice 29⟩,
  some ⟨true, 2, 48, [.nil, .nil], .struct [(0, 24), (1, 24)]⟩,
  some ⟨true, 2, 48, [.nil, .nil], .struct [(0, 24), (1, 24)]⟩,
  none,
  none,
  some ⟨false, 1, 4, [.fl .f32 0], .fl .f32⟩,
  none,
  none,
  none,
  none,
  some ⟨false, 1, 8, [.fl .f64 0], .fl .f64⟩,
  none,
  none,
  none,
  none,
  none,
  some ⟨false, 1, 24, [.nil], .slice 43⟩,
  none,
  none,
  some ⟨false, 1, 8, [.cx .f32 0 0], .cx .f32⟩,
  none,
  none,
  none,
  none,
  none,
  none,
  none,
  some ⟨false, 1, 8, [.int .u64 0], .int .u64⟩,
  some ⟨true, 3, 40, [.nil, .int .i64 0, .int .u64 0], .struct [(0, 22), (1, 3), (2, 51)]⟩,
  some ⟨true, 3, 40, [.nil, .int .i64 0, .int .u64 0], .struct [(0, 22), (1, 3), (2, 51)]⟩,
  none,
  none,
  none,
  none,
  none,
  none,
  none,
  none,
  none,
  none,
  none,
  none,
  none,
  none,
  some ⟨false, 1, 8, [.int .u64 0], .int .u64⟩,
  none,
  none,
  none,
  none,
  none,
  none,
  none,
  none,
  none,
  some ⟨false, 1, 4, [.int .u32 0], .int .u32⟩,
  none,
  none,
  none,
  none,
  none,
  none,
  none,
  none,
  none
]
def ty : Ty := fun t => match tyTab[t]? with | some o => o | none => none
theorem tyOk : TyOk Try.prog ty := tyOk_of (by kernel_rfl)
theorem mixed : Try.prog.follows .mixedOrders = true := by kernel_rfl
end Go.Proofs.Ytdbmbelllghdcaa.Ab

namespace Go.Proofs.Ytdbmbelllghdcaa.Ab
set_option linter.unusedVariables false
set_option linter.unusedSimpArgs false
open Go Go.RowKit Go.WideShapes Go.ChangeShapes
abbrev G := List V → H → Option (V × H)
def FnOk (P : Program) (f : FuncId) (g : G) : Prop := FnT P f fun vs h => T.of (g vs h)
abbrev GT := List V → H → T
def tab : List (FuncId × G) → Fns
  | [] => fun _ _ _ => .no
  | (k, g) :: l => fun f => if f = k then fun vs h => T.of (g vs h) else tab l f
abbrev gT (g : G) : GT := fun vs h => T.of (g vs h)
def tabT : List (FuncId × GT) → Fns
  | [] => fun _ _ _ => .no
  | (k, g) :: l => fun f => if f = k then g else tabT l f
theorem tabT_nil {P : Program} : ∀ f, FnT P f (tabT [] f) := fun _ _ _ _ _ h => by cases h
theorem tabT_cons {P : Program} {k : FuncId} {g : GT} {l : List (FuncId × GT)} (h : FnT P k g) (t : ∀ f, FnT P f (tabT l f)) : ∀ f, FnT P f (tabT ((k, g) :: l) f) := by
  intro f
  simp only [tabT]
  split
  · rename_i e; subst e; exact h
  · exact t f
def ann0 : Ann := ⟨fun _ => none, fun _ _ => .quiet⟩
theorem fnT {f : FuncId} {fn : Func} {code : Code} {fns : Fns} (hfn : ∀ f, FnT Try.prog f (fns f)) (hf : Try.prog.funcs[f]? = some fn) (hb : fn.body = some code) (hn : (fn.name == "runtime.NumGoroutine") = false) {g : GT} (an : Ann)
    (H : ∀ vs h v h', (g vs h).run = some (v, h') → ∃ N, run ty fns an N fn vs h = some (v, h')) : FnT Try.prog f g :=
  fn_ok tyOk hfn mixed hf hb hn an H
theorem FnT.as {P : Program} {f : FuncId} {g g' : GT} (h : FnT P f g) (e : ∀ vs h, (g' vs h).run = (g vs h).run) : FnT P f g' := fun vs hp v h' e' => h vs hp v h' (by rw [← e]; exact e')
theorem law_calls {f : FuncId} {fn : Func} {code : Code} {g : G} (hok : FnOk Try.prog f g) (hf : Try.prog.funcs[f]? = some fn) (hb : fn.body = some code) (hn : (fn.name == "runtime.NumGoroutine") = false)
    {vs : List V} {cvs : List Value} {h h' : H} {μ : Mu} {w : World} (hg : g vs h = some (.bool true, h')) (hr : Rel μ h w) (hv : RepVs μ vs cvs) (hro : ∀ k, ¬ Wr μ h k) :
    Calls Try.prog f ⟨cvs⟩ w fun e w' => e = .returned (.bool true) ∧ Below w.heap.size w w' := by
  have hn' : ¬ (fn.name = "runtime.NumGoroutine") := by simpa using hn
  have hrun : (callFunc f ⟨cvs⟩).run Try.prog w = .ok (.enter f ⟨cvs⟩) w := by simp [callFunc, hf, hn', hb]
  rcases hok vs h _ h' (by rw [T.run_of]; exact hg) μ w cvs hr hv with ⟨_, h2⟩ | ⟨cv, w', h1, _⟩
  · refine h2.mono fun e w' ⟨cv, h3, μ', he, hcv⟩ => ?_
    cases repBool hcv
    exact ⟨h3, he.fr.os, he.fr.tape, he.fr.output, he.fr.size, fun k hk => he.fr.block k hk (hro k)⟩
  · rw [hrun] at h1
    cases h1
theorem Rel.none (w : World) : Rel ⟨noZ, []⟩ [] w := ⟨rfl, fun i m rw c h => by simp at h, fun i m c h => by simp at h, fun i m rw c h => by simp at h, fun i j m n c rw d _ h => by simp at h, fun k cur h => by cases h⟩
section
variable {H : Type} {enc : TypeId × Value → H} {P : Program}
theorem post_of_below {f : Func} {s : ChangeSpec} {apart fresh handsOn again : Bool} {W W' : World} {args : Array Value} {v : Value} {ds gs : List (DataW H)} {before pa pv : List MemPlace}
    (hW : DataW.Whole enc P f.params.toList s.vars apart W args.toList ds gs before)
    (hres : ∀ (b : Nat) (sp : Nat → Bool) (hd : Bool), DataW.TrodAll enc P W' b sp hd f.resultTypes.toList (v.resultList f.resultTypes.size) (s.fn H (ds ++ gs)).results [])
    (hargs : ∀ sp : Nat → Bool, (∀ p ∈ before, sp p.block = true) → DataW.TrodAll enc P W' 0 sp true f.params.toList args.toList (s.fn H (ds ++ gs)).args pa)
    (hvars : ∀ sp : Nat → Bool, (∀ p ∈ before, sp p.block = true) → DataW.TrodVars enc P W' sp s.vars (s.fn H (ds ++ gs)).vars pv)
    (hps : before = pa ++ pv) (hb : Below W.heap.size W W')
    (hok : ∀ (j : Nat) (t : TypeId) (r : Value), f.resultTypes[j]? = some t → (v.resultList f.resultTypes.size)[j]? = some r → Value.okWide P W' .any 0 t r) :
    s.post enc P f apart fresh handsOn again W args v W' := by
  have hlt : ∀ p ∈ before, p.block < W.heap.size := fun p hp => hW.lt p hp
  have hold : ∀ p ∈ before, (fun b => decide (b < W.heap.size)) p.block = true := fun p hp => by simpa using hlt p hp
  refine ⟨ds, gs, before, [], pa, pv, hW, hres _ _ _, hargs _ hold, hvars _ hold, World.keptBut_mono (fun p hp => ⟨hp, ?_⟩) (hb.frame (· ∈ before)), fun _ => ?_⟩
  · rw [hps, List.mem_append] at hp
    exact Or.inr hp
  · obtain ⟨_, _, _, _, _, hz, hn⟩ := hW
    refine ⟨hok, _, _, ([] ++ pa) ++ pv, ⟨[] ++ pa, pv, trodAll_append (hargs _ (fun _ _ => rfl)) (hres _ _ _), hvars _ (fun _ _ => rfl), rfl, ?_, ?_⟩, ?_⟩
    · intro b off hp
      have hin : MemPlace.cell b off ∈ before := by rw [hps]; simpa using hp
      rw [hb.frozen (hlt _ hin)]
      exact hz b off hin
    · intro ha
      have := hn ha
      rw [hps] at this
      simpa using this
    · intro p hp _
      rw [hps]
      simpa using hp
end
end Go.Proofs.Ytdbmbelllghdcaa.Ab

namespace Go.Proofs.Ytdbmbelllghdcaa.Ab
set_option linter.unusedVariables false
set_option linter.unusedSimpArgs false
open Go Go.ChangeShapes Go.WideShapes Go.RowKit
section
variable {H : Type} {enc : TypeId × Value → H} {P : Program} {w : World} {base : Nat} {spare : Nat → Bool} {held : Bool} {fuel : Nat} {t : TypeId} {cs : List Value} {x : DataW H × List MemPlace}
theorem list_of {α : Type} {p : Nat → α → Prop} : ∀ n, (∀ i, i < n → ∃ x, p i x) → ∃ l : List α, l.length = n ∧ ∀ i x, l[i]? = some x → p i x
  | 0, _ => ⟨[], rfl, fun i x h => by simp at h⟩
  | n + 1, h => by
    obtain ⟨l, h1, h2⟩ := list_of n (fun i hi => h i (by omega))
    obtain ⟨x, hx⟩ := h n (by omega)
    refine ⟨l ++ [x], by simp [h1], fun i y hy => ?_⟩
    by_cases hi : i < l.length
    · rw [List.getElem?_append_left hi] at hy
      exact h2 i y hy
    · rw [List.getElem?_append_right (by omega)] at hy
      have hlt : i - l.length < 1 := by simpa using (List.getElem?_eq_some_iff.1 hy).1
      have e : i = n := by omega
      subst e
      rw [show i - l.length = 0 by omega] at hy
      simp at hy
      subst hy
      exact hx
theorem slice_open {W : World} {e : TypeId} {v : Value} {d : DataW H} {ps : List MemPlace} {r : Reach} {b0 : Nat} {Q : Value → Prop} (ht : P.underlying t = some (.slice e)) (hc : P.cellsOf e = 1)
    (hQ : ∀ n cs y, DataW.trod enc P W 0 (fun _ => true) true n e cs = some y → ∃ u, cs = [u] ∧ Q u)
    (hval : Value.okWide P W r b0 t v) (hd : DataW.Trod enc P W 0 (fun _ => true) true t v d ps) :
    v = .slice none 0 0 ∨ ∃ b off len cap, v = .slice (some ⟨b, off, none⟩) len cap ∧ len ≤ cap ∧ cap ≤ maxLen ∧ b < W.heap.size ∧ ∀ i, i < len → ∃ u, W.cell? ⟨b, off + i, none⟩ = some u ∧ Q u := by
  obtain ⟨a0, l0, c0, rfl⟩ := okWide_slice ht hval
  obtain ⟨fuel, hf⟩ := hd
  rcases DataW.trod_slice ht hf with ⟨hcs, _⟩ | ⟨a, len, cap, elems, rest, n, _, hcs, hx, hb, hl, hm, hlen, hel, _⟩
  · left
    simpa [Value.cells] using hcs
  · right
    have hcs' : a0 = some a ∧ l0 = len ∧ c0 = cap := by simpa [Value.cells] using hcs
    obtain ⟨rfl, rfl, rfl⟩ := hcs'
    obtain ⟨b, off, spot⟩ := a
    simp only [Value.okWide, ht, Cell.okWide, Cell.ok, World.has] at hval
    obtain ⟨_, _, _, hsp, row, cells, hsh, _⟩ := hval
    have hsp : spot = none := hsp
    subst hsp
    have hlt : b < W.heap.size := by
      unfold World.shape? at hsh
      by_cases h : b < W.heap.size
      · exact h
      · rw [Array.getElem?_eq_none (by omega)] at hsh
        cases hsh
    refine ⟨b, off, l0, c0, rfl, hl, hm, hlt, fun i hi => ?_⟩
    have h1 := hel i hi
    rw [hc, Nat.mul_one] at h1
    have hi' : i < elems.length := by omega
    rw [List.getElem?_eq_getElem hi', Option.bind_eq_some_iff] at h1
    obtain ⟨cs', h2, h3⟩ := h1
    obtain ⟨u, rfl, hu⟩ := hQ _ _ _ h3
    refine ⟨u, ?_, hu⟩
    have := cell_of_cells?_one h2
    rwa [add_plain] at this
end
def RoB (w : World) (m : M) (b : B) : Prop := ∃ c, b = .at false c ∧ m.blk < w.heap.size ∧ ∀ p x, c.get? p = some x → ∃ u, w.cell? ⟨m.blk, m.off + p, none⟩ = some u ∧ ∀ μ, RepA μ x u
def RoBs (w : World) : List M → List B → Prop
  | [], [] => True
  | m :: μ, b :: h => RoB w m b ∧ RoBs w μ h
  | _, _ => False
theorem RoBs.get {w : World} : ∀ {μ : List M} {h : List B}, RoBs w μ h → μ.length = h.length ∧ ∀ (i : Nat) (m : M) (b : B), μ[i]? = some m → h[i]? = some b → RoB w m b
  | [], [], _ => ⟨rfl, fun i m b hm _ => by simp at hm⟩
  | m :: μ, b :: h, ⟨h1, h2⟩ => by
    obtain ⟨h3, h4⟩ := RoBs.get h2
    refine ⟨by simp [h3], fun i m' b' hm hb => ?_⟩
    cases i with
    | zero => simp at hm hb; subst hm; subst hb; exact h1
    | succ i => exact h4 i m' b' (by simpa using hm) (by simpa using hb)
theorem Rel.ro {w : World} {μ : List M} {h : List B} (hr : RoBs w μ h) : Rel ⟨noZ, μ⟩ h w := by
  obtain ⟨h1, h2⟩ := hr.get
  refine ⟨h1, fun i m rw c hm hb j x hx => ?_, fun i m c hm hb => ?_, fun i m rw c hm hb _ => ?_, fun i j m n c rw d _ hm _ hb _ _ => ?_, fun k cur h => by cases h⟩
  · obtain ⟨c', e, _, hc⟩ := h2 i m _ hm hb
    cases e
    obtain ⟨u, hu, hr⟩ := hc j x hx
    exact ⟨u, hu, hr _⟩
  · obtain ⟨c', e, _⟩ := h2 i m _ hm hb
    cases e
  · exact (h2 i m _ hm hb).choose_spec.2.1
  · obtain ⟨c', e, _⟩ := h2 i m _ hm hb
    cases e
theorem not_wr_ro {w : World} {μ : List M} {h : List B} (hr : RoBs w μ h) (k : Nat) : ¬ Wr ⟨noZ, μ⟩ h k := by
  rintro ⟨i, m, c, hm, hb, _⟩
  obtain ⟨c', e, _⟩ := hr.get.2 i m _ hm hb
  cases e
section
variable {H : Type} {enc : TypeId × Value → H} {P : Program} {t e : TypeId} {W : World} {v : Value} {d : DataW H} {ps : List MemPlace} {r : Reach} {b0 : Nat}
theorem open_ints' {k : IntKind} (ht : P.underlying t = some (.slice e)) (he : P.underlying e = some (.int k)) (hc : P.cellsOf e = 1)
    (hval : Value.okWide P W r b0 t v) (hd : DataW.Trod enc P W 0 (fun _ => true) true t v d ps) :
    v = .slice none 0 0 ∨ ∃ (m : M) (l : List Int), RoB W m (.at false (.int k l)) ∧ (∀ z ∈ l, (Lit.int k z).wf = true) ∧ ∀ (μ : Mu) i, μ.l[i]? = some m → RepA μ (.sl i 0 l.length) v := by
  rcases slice_open (Q := fun u => ∃ z, u = .int k z ∧ (Lit.int k z).wf = true) ht hc (fun n cs y h => by obtain ⟨b, h1, _, h2⟩ := DataW.trod_int he h; exact ⟨_, h1, b, rfl, h2⟩) hval hd with h | ⟨b, off, len, cap, rfl, h1, h2, h3, h4⟩
  · exact .inl h
  · right
    obtain ⟨zs, hz, hzs⟩ := list_of (p := fun i z => W.cell? ⟨b, off + i, none⟩ = some (.int k z) ∧ (Lit.int k z).wf = true) len (fun i hi => by obtain ⟨u, hu, z, rfl, hw⟩ := h4 i hi; exact ⟨z, hu, hw⟩)
    refine ⟨⟨b, off, false, 0, 0, 0⟩, zs, ⟨_, rfl, h3, fun p x hx => ?_⟩, fun z hz' => ?_, fun μ i hm => ⟨_, ⟨b, off + 0, none⟩, cap, hm, by rw [hz, Nat.add_zero], by rw [hz]; exact h1, h2, fun _ => rfl, fun _ ho => by cases ho⟩⟩
    · unfold C.get? C.getK at hx
      cases hp : zs[p]? with
      | none => simp only [hp] at hx; cases hx
      | some z =>
        simp only [hp] at hx
        cases hx
        exact ⟨_, (hzs p z hp).1, fun μ => rfl⟩
    · obtain ⟨i, hi⟩ := List.getElem?_of_mem hz'
      exact (hzs i z hi).2
end
end Go.Proofs.Ytdbmbelllghdcaa.Ab

namespace Go.Proofs.Ytdbmbelllghdcaa.Ab
set_option linter.unusedVariables false
set_option linter.unusedSimpArgs false
open Go
def finB (x : Nat) : Bool := FloatKind.f32.format.order (fop .sub .f32 x x) 0 == some .eq
def ltB (x y : Nat) : Bool := FloatKind.f32.format.order x y == some .lt
def gtB (x y : Nat) : Bool := FloatKind.f32.format.order x y == some .gt
def eqB (x y : Nat) : Bool := FloatKind.f32.format.order x y == some .eq
theorem fconv_up (b : Nat) : ∃ y, fconv .f32 b .f64 = some y := by
  unfold fconv
  rw [if_neg (by decide)]
  split
  · exact ⟨_, rfl⟩
  · rename_i hn
    unfold floatToFloatBits
    rw [if_neg (by decide)]
    cases hd : FloatKind.f32.decode b with
    | nan s f => rw [hd] at hn; exact absurd rfl hn
    | infinity s => exact ⟨_, rfl⟩
    | number s m e =>
      have hb : m < 2 ^ 24 ∧ -149 ≤ e ∧ e ≤ 104 := by
        have hd' : Ieee.single.read b = .number s m e := hd
        unfold Ieee.Format.read at hd'
        have c1 : Ieee.single.signWeight = 2147483648 := by decide
        have c2 : Ieee.single.binade = 8388608 := by decide
        have c3 : Ieee.single.infRung = 2139095040 := by decide
        have c4 : Ieee.single.leastPlace = -149 := by decide
        simp only [c1, c2, c3, c4] at hd'
        split at hd'
        · simp only [Ieee.Datum.number.injEq] at hd'; omega
        · split at hd'
          · simp only [Ieee.Datum.number.injEq] at hd'; omega
          · split at hd' <;> cases hd'
      have hi : (FloatKind.f64.decode (FloatKind.f64.encode (.number s m e))).isInfinity = false := by
        show (Ieee.double.read (Ieee.double.nearest s m e)).isInfinity = false
        have c1 : Ieee.double.signWeight = 9223372036854775808 := by decide
        have c2 : Ieee.double.binade = 4503599627370496 := by decide
        have c3 : Ieee.double.infRung = 9218868437227405312 := by decide
        have c4 : Ieee.double.leastPlace = -1074 := by decide
        have c5 : Ieee.double.fractionBits = 52 := by decide
        have fin : ∀ r : Nat, r < 9218868437227405312 → (Ieee.double.read (Ieee.double.word s r)).isInfinity = false := by
          intro r hr
          unfold Ieee.Format.read Ieee.Format.word
          simp only [c1, c2, c3, c4]
          have hm : (if s = true then 9223372036854775808 + r else r) % 9223372036854775808 = r := by split <;> omega
          rw [hm]
          split
          · rfl
          · first | rfl | (rw [if_pos hr]; rfl)
        unfold Ieee.Format.nearest
        split
        · exact fin 0 (by decide)
        · rename_i hm
          simp only [c2, c3, c4, c5]
          have hl : m.log2 < 24 := (Nat.log2_lt hm).2 hb.1
          have hmax : max (e + (m.log2 : Int) - (52 : Nat)) (-1074) = e + (m.log2 : Int) - 52 := by omega
          rw [hmax]
          have hz : (e + (m.log2 : Int) - 52 - e).toNat = 0 := by omega
          have hs : (e - (e + (m.log2 : Int) - 52)).toNat = 52 - m.log2 := by omega
          rw [hz, hs]
          have hk : Ieee.Toward.even.cut s (m <<< (52 - m.log2)) 0 = m <<< (52 - m.log2) := by
            unfold Ieee.Toward.cut
            simp [Nat.mod_one]
          rw [hk]
          have hlt : m <<< (52 - m.log2) < 9007199254740992 := by
            rw [Nat.shiftLeft_eq]
            have h1 : m < 2 ^ (m.log2 + 1) := Nat.lt_log2_self
            have h2 : 2 ^ (m.log2 + 1) * 2 ^ (52 - m.log2) = 9007199254740992 := by
              rw [← Nat.pow_add]
              have : m.log2 + 1 + (52 - m.log2) = 53 := by omega
              rw [this]
            calc m * 2 ^ (52 - m.log2) < 2 ^ (m.log2 + 1) * 2 ^ (52 - m.log2) := Nat.mul_lt_mul_of_pos_right h1 (Nat.pow_pos (by decide))
              _ = _ := h2
          generalize m <<< (52 - m.log2) = q at hlt
          have hq : (e + (m.log2 : Int) - 52 - -1074).toNat ≤ 1149 := by omega
          generalize (e + (m.log2 : Int) - 52 - -1074).toNat = p at hq
          refine fin _ (Nat.lt_of_le_of_lt (Nat.min_le_left _ _) (Nat.lt_of_lt_of_le (Nat.add_lt_add_of_le_of_lt (Nat.mul_le_mul_right _ hq) hlt) (by decide)))
      dsimp only
      rw [hi]
      exact ⟨_, rfl⟩
def up (b : Nat) : Nat := (fconv .f32 b .f64).getD 0
theorem fconv_eq (b : Nat) : fconv .f32 b .f64 = some (up b) := by
  obtain ⟨y, h⟩ := fconv_up b
  unfold up
  rw [h]; rfl
def eqD (x y : Nat) : Bool := FloatKind.f64.format.order x y == some .eq
def gtD (x y : Nat) : Bool := FloatKind.f64.format.order x y == some .gt
end Go.Proofs.Ytdbmbelllghdcaa.Ab

namespace Go.Proofs.Ytdbmbelllghdcaa.Ab
set_option linter.unusedVariables false
set_option linter.unusedSimpArgs false
open Go
def anys (n : Nat) (l : List V) : List V := Nat.rec (motive := fun _ => List V) l (fun _ r => .any :: r) n
abbrev kEnd (fn : Func) (k : Nat) : X → St → Option (V × H) := fun x st => match x with | .exit _ => none | _ => finish ty fn k st
abbrev kSeqR {R : Type} (fns : Fns) (an : Ann) (N k : Nat) (c : Code) (K : X → St → Option R) : X → St → Option R := fun x st => match x with | .norm => exec ty fns an N k c st K | x => K x st
abbrev kBlkR {R : Type} (id : Nat) (K : X → St → Option R) : X → St → Option R := fun x st => match x with
  | .exit j => match decide (j = id) with
    | true => K .norm st
    | false => K (.exit j) st
  | x => K x st
def cAt : List Bool → Code → Code
  | [], c => c
  | false :: p, .seq a _ => cAt p a
  | true :: p, .seq _ b => cAt p b
  | false :: p, .cond _ a _ => cAt p a
  | true :: p, .cond _ _ b => cAt p b
  | _ :: p, .block _ b => cAt p b
  | _ :: p, .loop b => cAt p b
  | _ :: p, .scope b => cAt p b
  | _, _ => .skip
def atOf (p : List Bool) (fn : Func) : Code := match fn.body with | some c => cAt p c | none => .skip
theorem T.ite_inv {b : Bool} {x y : T} {v : V} {h' : H} (e : (T.ite b x y).run = some (v, h')) : (b = true ∧ x.run = some (v, h')) ∨ (b = false ∧ y.run = some (v, h')) := by
  cases b with
  | true => exact .inl ⟨rfl, e⟩
  | false => exact .inr ⟨rfl, e⟩
theorem T.pre_inv {b : Bool} {x : T} {v : V} {h' : H} (e : (T.ite b x .no).run = some (v, h')) : b = true ∧ x.run = some (v, h') := by
  rcases T.ite_inv e with h | ⟨_, h⟩
  · exact h
  · cases h
theorem T.ret_inv {a v : V} {g h' : H} (e : (T.ret a g).run = some (v, h')) : v = a ∧ h' = g := by cases e; exact ⟨rfl, rfl⟩
theorem T.no_inv {v : V} {h' : H} (e : T.no.run = some (v, h')) : False := by cases e
def ltD (x y : Nat) : Bool := FloatKind.f64.format.order x y == some .lt
def gF1 (p : Nat → Bool) : G := fun vs h => match vs, h with | [.fl .f32 x], [] => some (.bool (p x), []) | _, _ => none
theorem wrap_s {n : Int} (h0 : 0 ≤ n) (h1 : n < 9223372036854775808) : IntKind.i64.wrap n = n := by
  simp only [IntKind.wrap, IntKind.signed, IntKind.bits]
  first | omega | (simp; omega)
theorem wrap_z {n : Int} (h0 : -9223372036854775808 ≤ n) (h1 : n < 9223372036854775808) : IntKind.i64.wrap n = n := by
  simp only [IntKind.wrap, IntKind.signed, IntKind.bits]
  first | omega | (simp; omega)
theorem dlt {i n : Nat} (h : i < n) : decide ((i : Int) < (n : Int)) = true := by simp; omega
theorem dge {i n : Nat} (h : n ≤ i) : decide ((i : Int) < (n : Int)) = false := by simp; omega
theorem din {i n : Nat} (h : i < n) : decide (0 ≤ (i : Int) ∧ (i : Int) < ((n : Nat) : Int)) = true := by simp; omega
theorem ix {i : Nat} : 0 + ((i : Nat) : Int).toNat * 1 = i := by omega
theorem wr {i : Nat} (h : i < 2147483648) : IntKind.i64.wrap ((i : Int) + 1) = ((i + 1 : Nat) : Int) := by
  rw [wrap_s (by omega) (by omega)]; omega
theorem lt_of_get {α : Type} {l : List α} {i : Nat} {x : α} (h : l[i]? = some x) : i < l.length := (List.getElem?_eq_some_iff.1 h).1
def firstIx {α : Type} (t : α → Bool) : List α → Nat → Option Nat
  | [], _ => none
  | x :: l, i => match t x with
    | true => some i
    | false => firstIx t l (i + 1)
theorem scan {R α : Type} (l : List α) (t : α → Bool) (L : Nat → Int → Option R) (A : Nat → Option R) (Z : Option R)
    (hs : ∀ (M i : Nat) x, l[i]? = some x → L (M + 1) i = match t x with | true => A i | false => L M ((i + 1 : Nat) : Int))
    (he : ∀ M, L (M + 1) (l.length : Nat) = Z) :
    ∀ suf pre, l = pre ++ suf → ∀ M, L (suf.length + 1 + M) pre.length = match firstIx t suf pre.length with | some j => A j | none => Z := by
  intro suf
  induction suf with
  | nil =>
    intro pre hl M
    have hlen : pre.length = l.length := by rw [hl]; simp
    rw [show ([] : List α).length + 1 + M = M + 1 by simp; omega, hlen, he]
    rfl
  | cons x suf ih =>
    intro pre hl M
    rw [show (x :: suf).length + 1 + M = (suf.length + 1 + M) + 1 by simp; omega, hs _ _ x (by rw [hl]; simp)]
    unfold firstIx
    cases t x with
    | true => rfl
    | false =>
      have := ih (pre ++ [x]) (by rw [hl]; simp) M
      have e : pre.length + 1 = (pre ++ [x]).length := by simp
      rw [e]
      exact this
theorem scan0 {R α : Type} (l : List α) (t : α → Bool) (L : Nat → Int → Option R) (A : Nat → Option R) (Z : Option R)
    (hs : ∀ (M i : Nat) x, l[i]? = some x → L (M + 1) i = match t x with | true => A i | false => L M ((i + 1 : Nat) : Int))
    (he : ∀ M, L (M + 1) (l.length : Nat) = Z) : L (l.length + 1) 0 = match firstIx t l 0 with | some j => A j | none => Z := scan l t L A Z hs he l [] rfl 0
def ixOf {α : Type} (p : α → Bool) (l : List α) : Int := match firstIx p l 0 with | some j => (j : Int) | none => -1
theorem first_all {α : Type} (p : α → Bool) : ∀ (l : List α) (i : Nat), (firstIx (fun x => !p x) l i).isNone = l.all p
  | [], i => rfl
  | x :: l, i => by
    unfold firstIx
    simp only [List.all_cons]
    cases p x with
    | true => simp only [Bool.not_true, Bool.true_and]; exact first_all p l (i + 1)
    | false => simp
theorem ix_all {α : Type} (p : α → Bool) (l : List α) : (!(decide (ixOf (fun x => !p x) l ≥ 0))) = l.all p := by
  rw [← first_all p l 0]
  unfold ixOf
  cases firstIx (fun x => !p x) l 0 with
  | none => rfl
  | some j => simp
def rounds {σ : Type} (f : Nat → σ → σ) : Nat → Nat → σ → σ
  | 0, _, s => s
  | k + 1, i, s => rounds f k (i + 1) (f i s)
def apok (rw : Bool) (n sz len e q bt : Nat) : Bool := rw && decide (n * sz = len ∧ e = sz) && boundB q bt
theorem apc {i b : Nat} {α : Type} {l : List α} (h : l.length = i) (hi : i < 2147483648) (hb : b ≤ 16) : apok true i 1 l.length 1 (i + 1) b = true := by
  have h2 : (i + 1) * b ≤ 2147483648 * 16 := Nat.mul_le_mul (by omega) hb
  unfold apok
  rw [decide_eq_true (show i * 1 = l.length ∧ 1 = 1 from ⟨by omega, rfl⟩)]
  unfold boundB
  rw [decide_eq_true (show i + 1 ≤ 9223372036854775807 ∧ (i + 1) * b ≤ 140737488355328 from ⟨by omega, by omega⟩)]
  rfl
abbrev nilF : V := .tup [.a .nil, .a (.bool false)]
end Go.Proofs.Ytdbmbelllghdcaa.Ab

namespace Go.Proofs.Ytdbmbelllghdcaa.Ab
set_option linter.unusedVariables false
set_option linter.unusedSimpArgs false
open Go
theorem ext_ok {P : Program} {f : FuncId} {fn : Func} {e : Array Value → Sem Value} {g : GT} (hf : P.funcs[f]? = some fn) (hname : (fn.name == "runtime.NumGoroutine") = false) (hb : fn.body.isNone = true) (hn : Extern.findNext fn = none) (he : Extern.find fn = some e)
    (H : ∀ vs hp v h', (g vs hp).run = some (v, h') → hp = [] ∧ h' = [] ∧ ∀ (μ : Mu) cvs w, RepVs μ vs cvs → ∃ cv n, (e ⟨cvs⟩).run P w = .ok cv (w.drewN n) ∧ RepV μ v cv) : FnT P f g := by
  intro vs hp v h' ee μ w cvs hr hv
  obtain ⟨rfl, rfl, hh⟩ := H vs hp v h' ee
  obtain ⟨cv, n, h1, h2⟩ := hh μ cvs w hv
  exact .inr ⟨cv, w.drewN n, by rw [run_callFunc_extern hf hname hb hn he, h1]; rfl, μ, Ev.drewN hr n, h2⟩
theorem rep_one {μ : Mu} {v : V} {cvs : List Value} (h : RepVs μ [v] cvs) : ∃ c, cvs = [c] ∧ RepV μ v c := by
  cases cvs with
  | nil => exact h.elim
  | cons c cs =>
    cases cs with
    | nil => exact ⟨c, rfl, h.1⟩
    | cons _ _ => exact h.2.elim
def fsqrt (x : Nat) : Nat := (FloatKind.f64.format.sqrt x).getD (qnan .f64)
def gSqrt : GT := fun vs h => match vs, h with | [.fl .f64 x], [] => .ret (.fl .f64 (fsqrt x)) [] | _, _ => .no
theorem fsqrt_canon (b : Nat) : fsqrt (canon .f64 b) = canon .f64 (fsqrt b) := by
  cases hb : isN .f64 b with
  | false =>
    rw [canon_of hb]
    unfold fsqrt
    cases e : FloatKind.f64.format.sqrt b with
    | none => exact (canon_qnan .f64).symm
    | some r =>
      unfold Ieee.Format.sqrt at e
      simp only [Option.map_eq_some_iff] at e
      obtain ⟨d, h1, rfl⟩ := e
      exact (canon_of (isN_write .f64 (root_some h1).2)).symm
  | true =>
    have key : ∀ c, isN .f64 c = true → fsqrt c = qnan .f64 := by
      intro c hc
      unfold fsqrt
      cases e : FloatKind.f64.format.sqrt c with
      | none => rfl
      | some r =>
        unfold Ieee.Format.sqrt at e
        simp only [Option.map_eq_some_iff] at e
        obtain ⟨d, h1, _⟩ := e
        have h2 : (FloatKind.f64.format.read c).isNaN = true := hc
        rw [(root_some h1).1] at h2
        cases h2
    rw [key _ (by rw [isN_canon]; exact hb), key _ hb, canon_qnan]
theorem sqrt_ok {P : Program} {f : FuncId} {fn : Func} (hf : P.funcs[f]? = some fn) (hname : (fn.name == "runtime.NumGoroutine") = false) (hb : fn.body.isNone = true) (hn : Extern.findNext fn = none) (he : Extern.find fn = some Extern.MathSqrt.sqrt) : FnT P f gSqrt := by
  refine ext_ok hf hname hb hn he fun vs hp v h' e => ?_
  unfold gSqrt at e
  split at e
  case h_2 => exact (T.no_inv e).elim
  obtain ⟨rfl, rfl⟩ := T.ret_inv e
  refine ⟨rfl, rfl, fun μ cvs w hv => ?_⟩
  obtain ⟨c, rfl, b, rfl, rfl⟩ := rep_one hv
  cases e : FloatKind.f64.format.sqrt b with
  | some r =>
    refine ⟨.float .f64 r, 0, by show ((match FloatKind.f64.format.sqrt b with | some r => pure (.float .f64 r) | none => do pure (.float .f64 (← choose (.nanBits .f64 b b)))) : Sem Value).run P w = _; rw [e]; rfl, r, rfl, ?_⟩
    rw [fsqrt_canon]
    unfold fsqrt
    rw [e]
    rfl
  | none =>
    refine ⟨.float .f64 ((Question.nanBits .f64 b b).cut (w.tape w.drawn (.nanBits .f64 b b))), 1, by show ((match FloatKind.f64.format.sqrt b with | some r => pure (.float .f64 r) | none => do pure (.float .f64 (← choose (.nanBits .f64 b b)))) : Sem Value).run P w = _; rw [e]; rfl, _, rfl, ?_⟩
    rw [fsqrt_canon]
    have : fsqrt b = qnan .f64 := by unfold fsqrt; rw [e]; rfl
    rw [this, canon_qnan]
    exact canon_nan (isN_cut .f64 (.nanBits .f64 b b) (w.tape w.drawn (.nanBits .f64 b b)) (.inl ⟨b, b, rfl⟩))
def gBits (k : FloatKind) (i : IntKind) : GT := fun vs h => match vs, h with | [.fl k' x], [] => if k' = k then .ite (!isN k x) (.ret (.int i x) []) .no else .no | _, _ => .no
def gFrom (k : FloatKind) (i : IntKind) : GT := fun vs h => match vs, h with | [.int i' n], [] => if i' = i then .ret (.fl k (canon k n.toNat)) [] else .no | _, _ => .no
theorem bits64_ok {P : Program} {f : FuncId} {fn : Func} (hf : P.funcs[f]? = some fn) (hname : (fn.name == "runtime.NumGoroutine") = false) (hb : fn.body.isNone = true) (hn : Extern.findNext fn = none) (he : Extern.find fn = some Extern.MathFloatBits.float64bits) : FnT P f (gBits .f64 .u64) := by
  refine ext_ok hf hname hb hn he fun vs hp v h' e => ?_
  unfold gBits at e
  split at e
  case h_2 => exact (T.no_inv e).elim
  split at e
  case isFalse => exact (T.no_inv e).elim
  rename_i hk
  subst hk
  obtain ⟨hx, e⟩ := T.pre_inv e
  obtain ⟨rfl, rfl⟩ := T.ret_inv e
  refine ⟨rfl, rfl, fun μ cvs w hv => ?_⟩
  obtain ⟨c, rfl, b, rfl, rfl⟩ := rep_one hv
  have hb : isN .f64 b = false := by rw [isN_canon] at hx; simpa using hx
  exact ⟨.int .u64 b, 0, rfl, by rw [canon_of hb]; rfl⟩
theorem from64_ok {P : Program} {f : FuncId} {fn : Func} (hf : P.funcs[f]? = some fn) (hname : (fn.name == "runtime.NumGoroutine") = false) (hb : fn.body.isNone = true) (hn : Extern.findNext fn = none) (he : Extern.find fn = some Extern.MathFloatBits.float64frombits) : FnT P f (gFrom .f64 .u64) := by
  refine ext_ok hf hname hb hn he fun vs hp v h' e => ?_
  unfold gFrom at e
  split at e
  case h_2 => exact (T.no_inv e).elim
  split at e
  case isFalse => exact (T.no_inv e).elim
  rename_i hk
  subst hk
  obtain ⟨rfl, rfl⟩ := T.ret_inv e
  refine ⟨rfl, rfl, fun μ cvs w hv => ?_⟩
  obtain ⟨c, rfl, hc⟩ := rep_one hv
  cases hc
  exact ⟨_, 0, rfl, _, rfl, rfl⟩
end Go.Proofs.Ytdbmbelllghdcaa.Ab

namespace Go.Proofs.Ytdbmbelllghdcaa.Ab
set_option linter.unusedVariables false
set_option linter.unusedSimpArgs false
open Go
theorem cut_le (neg : Bool) (n drop : Nat) : Ieee.Toward.even.cut neg n drop ≤ n / 2 ^ drop + 1 := by
  unfold Ieee.Toward.cut
  simp only [Nat.one_shiftLeft]
  have hm : ∀ b : Bool, b.toNat ≤ 1 := fun b => by cases b <;> decide
  by_cases h : drop ≤ n.log2 + 2
  · rw [Nat.min_eq_left h]
    exact Nat.add_le_add_left (hm _) _
  · rw [Nat.min_eq_right (by omega)]
    have h1 : n < 2 ^ (n.log2 + 1) := Nat.lt_log2_self
    have h2 : 2 ^ (n.log2 + 1) ≤ 2 ^ (n.log2 + 2) := Nat.pow_le_pow_right (by decide) (by omega)
    rw [Nat.div_eq_of_lt (Nat.lt_of_lt_of_le h1 h2)]
    exact Nat.add_le_add (Nat.zero_le _) (hm _)
theorem cut_zero (neg : Bool) (n : Nat) : Ieee.Toward.even.cut neg n 0 = n := by
  unfold Ieee.Toward.cut
  simp [Nat.mod_one]
theorem near_le (f : Ieee.Format) (neg : Bool) (m : Nat) (p B : Int) (hB : f.leastPlace + f.fractionBits ≤ B) (h : m = 0 ∨ p + (m.log2 : Int) < B) :
    ∃ r, f.nearest neg m p = f.word neg r ∧ r ≤ (B - f.leastPlace - f.fractionBits + 1).toNat * f.binade := by
  unfold Ieee.Format.nearest
  by_cases hm : m = 0
  · rw [if_pos hm]
    exact ⟨0, rfl, Nat.zero_le _⟩
  rw [if_neg hm]
  have h : p + (m.log2 : Int) < B := h.resolve_left hm
  refine ⟨_, rfl, Nat.le_trans (Nat.min_le_left _ _) ?_⟩
  have hb : f.binade = 2 ^ f.fractionBits := rfl
  generalize f.leastPlace = least at *
  generalize f.fractionBits = frac at *
  rw [hb]
  generalize hL : m.log2 = L at *
  have hmL : m < 2 ^ (L + 1) := by rw [← hL]; exact Nat.lt_log2_self
  by_cases hc : least ≤ p + L - frac
  · rw [Int.max_eq_left hc]
    have key : Ieee.Toward.even.cut neg (m <<< (p - (p + L - frac)).toNat) ((p + L - frac) - p).toNat ≤ 2 * 2 ^ frac := by
      by_cases hp : L ≤ frac
      · rw [show ((p + L - frac) - p).toNat = 0 by omega, cut_zero, Nat.shiftLeft_eq, show (p - (p + L - frac)).toNat = frac - L by omega]
        have : m * 2 ^ (frac - L) ≤ 2 ^ (L + 1) * 2 ^ (frac - L) := Nat.mul_le_mul_right _ (Nat.le_of_lt hmL)
        rw [← Nat.pow_add, show L + 1 + (frac - L) = frac + 1 by omega, Nat.pow_succ] at this
        omega
      · rw [show (p - (p + L - frac)).toNat = 0 by omega, show ((p + L - frac) - p).toNat = L - frac by omega]
        refine Nat.le_trans (cut_le _ _ _) ?_
        have : (m <<< 0) / 2 ^ (L - frac) < 2 * 2 ^ frac := by
          rw [Nat.shiftLeft_zero, Nat.div_lt_iff_lt_mul (Nat.pow_pos (by decide))]
          rw [show 2 * 2 ^ frac = 2 ^ (frac + 1) by rw [Nat.pow_succ]; omega, ← Nat.pow_add, show frac + 1 + (L - frac) = L + 1 by omega]
          exact hmL
        omega
    have e : (B - least - frac + 1).toNat = (p + L - frac - least).toNat + 2 + (B - 1 - (p + L)).toNat := by omega
    rw [e, Nat.add_mul, Nat.add_mul]
    refine Nat.le_trans (Nat.add_le_add_left key _) (Nat.le_add_right _ _)
  · rw [Int.max_eq_right (by omega)]
    have key : Ieee.Toward.even.cut neg (m <<< (p - least).toNat) (least - p).toNat ≤ 2 ^ frac := by
      by_cases hp : least ≤ p
      · rw [show (least - p).toNat = 0 by omega, cut_zero, Nat.shiftLeft_eq]
        have : m * 2 ^ (p - least).toNat ≤ 2 ^ (L + 1) * 2 ^ (p - least).toNat := Nat.mul_le_mul_right _ (Nat.le_of_lt hmL)
        rw [← Nat.pow_add] at this
        exact Nat.le_trans this (Nat.pow_le_pow_right (by decide) (by omega))
      · rw [show (p - least).toNat = 0 by omega]
        refine Nat.le_trans (cut_le _ _ _) ?_
        have : (m <<< 0) / 2 ^ (least - p).toNat < 2 ^ frac := by
          rw [Nat.shiftLeft_zero, Nat.div_lt_iff_lt_mul (Nat.pow_pos (by decide)), ← Nat.pow_add]
          exact Nat.lt_of_lt_of_le hmL (Nat.pow_le_pow_right (by decide) (by omega))
        omega
    rw [show (least - least).toNat = 0 by omega, Nat.zero_mul, Nat.zero_add]
    refine Nat.le_trans key ?_
    have : 1 * 2 ^ frac ≤ (B - least - frac + 1).toNat * 2 ^ frac := Nat.mul_le_mul_right _ (by omega)
    omega
theorem read64_le (neg : Bool) (r K : Nat) (hr : r ≤ K * 4503599627370496) (hK : K < 2047) :
    ∃ m e, Ieee.double.read (Ieee.double.word neg r) = .number neg m e ∧ (m = 0 ∨ e + (m.log2 : Int) ≤ (K : Int) - 1023) ∧ m < 9007199254740992 ∧ -1074 ≤ e := by
  unfold Ieee.Format.read Ieee.Format.word
  have c1 : Ieee.double.signWeight = 9223372036854775808 := by decide
  have c2 : Ieee.double.binade = 4503599627370496 := by decide
  have c3 : Ieee.double.infRung = 9218868437227405312 := by decide
  have c4 : Ieee.double.leastPlace = -1074 := by decide
  simp only [c1, c2, c3, c4]
  have hm : (if neg = true then 9223372036854775808 + r else r) % 9223372036854775808 = r := by split <;> omega
  have hs : ((if neg = true then 9223372036854775808 + r else r) / 9223372036854775808 % 2 == 1) = neg := by
    cases neg
    · rw [if_neg (by decide), Nat.div_eq_of_lt (by omega)]; rfl
    · rw [if_pos rfl, Nat.add_div_left _ (by decide), Nat.div_eq_of_lt (by omega)]; rfl
  rw [hm, hs]
  split
  · rename_i h1
    refine ⟨_, _, rfl, ?_, by omega, by omega⟩
    by_cases h0 : r = 0
    · exact .inl h0
    · right
      have := (Nat.log2_lt h0).2 (show r < 2 ^ 52 by omega)
      omega
  · rename_i h1
    rw [if_pos (by omega)]
    refine ⟨_, _, rfl, .inr ?_, by omega, by omega⟩
    have h2 := (Nat.log2_lt (show 4503599627370496 + r % 4503599627370496 ≠ 0 by omega)).2 (show 4503599627370496 + r % 4503599627370496 < 2 ^ 53 by omega)
    have h3 : r / 4503599627370496 ≤ K := by
      rw [Nat.div_le_iff_le_mul (by decide)]
      omega
    have h4 : 1 ≤ r / 4503599627370496 := by
      rw [Nat.le_div_iff_mul_le (by decide)]
      omega
    omega
theorem fconv_small {y : Nat} {s : Bool} {m : Nat} {e : Int} (hd : FloatKind.f64.decode y = .number s m e) (h : m = 0 ∨ e + (m.log2 : Int) < 127) : ∃ r, fconv .f64 y .f32 = some r := by
  unfold fconv
  rw [if_neg (by decide), hd]
  rw [if_neg (show ¬ ((Ieee.Datum.number s m e).isNaN = true) from fun h => by cases h)]
  unfold floatToFloatBits
  rw [if_neg (by decide), hd]
  dsimp only
  have hn : (FloatKind.f32.decode (FloatKind.f32.encode (.number s m e))).isInfinity = false := by
    show (Ieee.single.read (Ieee.single.nearest s m e)).isInfinity = false
    obtain ⟨r, h1, h2⟩ := near_le Ieee.single s m e 127 (by decide) h
    rw [h1]
    have h2 : r ≤ 254 * 8388608 := h2
    unfold Ieee.Format.read Ieee.Format.word
    have c1 : Ieee.single.signWeight = 2147483648 := by decide
    have c2 : Ieee.single.binade = 8388608 := by decide
    have c3 : Ieee.single.infRung = 2139095040 := by decide
    simp only [c1, c2, c3]
    have hm : (if s = true then 2147483648 + r else r) % 2147483648 = r := by split <;> omega
    rw [hm]
    split
    · rfl
    · rw [if_pos (by omega)]; rfl
  rw [hn]
  exact ⟨_, rfl⟩
theorem rootFrom_sq (n : Nat) : ∀ todo root, root * root ≤ n → Ieee.Datum.rootFrom n todo root * Ieee.Datum.rootFrom n todo root ≤ n
  | 0, root, h => h
  | todo + 1, root, h => by
    unfold Ieee.Datum.rootFrom
    dsimp only
    split
    · rename_i h1; exact rootFrom_sq n todo _ h1
    · exact rootFrom_sq n todo _ h
theorem up_num {x : Nat} (h : isN .f32 x = false) : (∃ s, FloatKind.f64.decode (up x) = .infinity s) ∨ ∃ s m e, FloatKind.f64.decode (up x) = .number s m e ∧ (m = 0 ∨ e + (m.log2 : Int) ≤ 128) := by
  have hx := fconv_eq x
  unfold fconv at hx
  rw [if_neg (by decide)] at hx
  unfold isN at h
  rw [if_neg (by rw [h]; decide)] at hx
  unfold floatToFloatBits at hx
  rw [if_neg (by decide)] at hx
  cases hd : FloatKind.f32.decode x with
  | nan s f => rw [hd] at h; cases h
  | infinity s =>
    rw [hd] at hx
    simp only [Option.some.injEq] at hx
    left
    rw [← hx]
    cases s
    · exact ⟨false, by decide⟩
    · exact ⟨true, by decide⟩
  | number s m e =>
    rw [hd] at hx
    simp only at hx
    split at hx
    · cases hx
    · simp only [Option.some.injEq] at hx
      right
      have hb : m < 2 ^ 24 ∧ e ≤ 104 := by
        have hd' : Ieee.single.read x = .number s m e := hd
        unfold Ieee.Format.read at hd'
        have c1 : Ieee.single.signWeight = 2147483648 := by decide
        have c2 : Ieee.single.binade = 8388608 := by decide
        have c3 : Ieee.single.infRung = 2139095040 := by decide
        have c4 : Ieee.single.leastPlace = -149 := by decide
        simp only [c1, c2, c3, c4] at hd'
        split at hd'
        · simp only [Ieee.Datum.number.injEq] at hd'; omega
        · split at hd'
          · simp only [Ieee.Datum.number.injEq] at hd'; omega
          · split at hd' <;> cases hd'
      have hl : m = 0 ∨ e + (m.log2 : Int) < 128 := by
        by_cases h0 : m = 0
        · exact .inl h0
        · have := (Nat.log2_lt h0).2 hb.1
          omega
      obtain ⟨r, h1, h2⟩ := near_le Ieee.double s m e 128 (by decide) hl
      have h2 : r ≤ 1151 * 4503599627370496 := h2
      obtain ⟨m', e', h3, h4, _⟩ := read64_le s r 1151 h2 (by decide)
      refine ⟨s, m', e', ?_, by omega⟩
      rw [← hx]
      show Ieee.double.read (Ieee.double.nearest s m e) = _
      rw [h1, h3]
theorem log_sq {w n : Nat} (hw : w ≠ 0) (h : w * w ≤ n) : 2 * w.log2 ≤ n.log2 := by
  have hn : n ≠ 0 := by
    intro h0
    subst h0
    have : 0 < w * w := Nat.mul_pos (by omega) (by omega)
    omega
  have h1 : 2 ^ w.log2 ≤ w := Nat.log2_self_le hw
  rw [Nat.le_log2 hn]
  rw [show 2 * w.log2 = w.log2 + w.log2 by omega, Nat.pow_add]
  exact Nat.le_trans (Nat.mul_le_mul h1 h1) h
theorem log_odd {w b : Nat} (hw : w ≠ 0) (hb : b ≤ 1) : (2 * w + b).log2 = w.log2 + 1 := by
  have h1 : 2 ^ w.log2 ≤ w := Nat.log2_self_le hw
  have h2 : w < 2 ^ (w.log2 + 1) := Nat.lt_log2_self
  rw [Nat.log2_eq_iff (by omega)]
  rw [Nat.pow_succ, Nat.pow_succ] at *
  omega
theorem log_shl {m k : Nat} (hm : m ≠ 0) : (m <<< k).log2 = m.log2 + k := by
  have h1 : 2 ^ m.log2 ≤ m := Nat.log2_self_le hm
  have h2 : m < 2 ^ (m.log2 + 1) := Nat.lt_log2_self
  have h3 : 0 < 2 ^ k := Nat.pow_pos (by decide)
  rw [Nat.shiftLeft_eq, Nat.log2_eq_iff (Nat.ne_of_gt (Nat.mul_pos (by omega) h3))]
  rw [Nat.pow_add, show m.log2 + k + 1 = (m.log2 + 1) + k by omega, Nat.pow_add]
  exact ⟨Nat.mul_le_mul_right _ h1, Nat.mul_lt_mul_of_pos_right h2 h3⟩
theorem root_small (x : Nat) : ∃ r, fconv .f64 (fsqrt (up x)) .f32 = some r := by
  cases hx : isN .f32 x with
  | true =>
    have hu : up x = qnan .f64 := by
      have h := fconv_eq x
      unfold fconv at h
      unfold isN at hx
      rw [if_neg (by decide), if_pos hx] at h
      exact (Option.some.inj h).symm
    rw [hu]
    exact Option.isSome_iff_exists.1 (by decide +kernel)
  | false =>
    rcases up_num hx with ⟨s, hd⟩ | ⟨s, m, e, hd, hb⟩
    · have hd' : Ieee.double.read (up x) = .infinity s := hd
      unfold fsqrt
      show ∃ r, fconv .f64 ((Ieee.double.sqrt (up x)).getD _) .f32 = some r
      unfold Ieee.Format.sqrt
      rw [hd']
      cases s
      · exact Option.isSome_iff_exists.1 (by decide +kernel)
      · exact Option.isSome_iff_exists.1 (by decide +kernel)
    · have hd' : Ieee.double.read (up x) = .number s m e := hd
      have hs : FloatKind.f64.format.sqrt (up x) = ((Ieee.Datum.number s m e).root 54).map Ieee.double.write := by
        show Ieee.double.sqrt (up x) = _
        unfold Ieee.Format.sqrt
        rw [hd']
        rfl
      unfold fsqrt
      rw [hs]
      unfold Ieee.Datum.root
      dsimp only
      by_cases h0 : m = 0
      · rw [if_pos h0]
        subst h0
        have hz : Ieee.double.write (.number s 0 e) = Ieee.double.word s 0 := by
          show Ieee.double.nearest s 0 e = _
          unfold Ieee.Format.nearest
          rw [if_pos rfl]
        show ∃ r, fconv .f64 (Ieee.double.write (.number s 0 e)) .f32 = some r
        rw [hz]
        cases s
        · exact Option.isSome_iff_exists.1 (by decide +kernel)
        · exact Option.isSome_iff_exists.1 (by decide +kernel)
      · rw [if_neg h0]
        cases s with
        | true =>
          rw [if_pos rfl]
          exact Option.isSome_iff_exists.1 (by decide +kernel)
        | false =>
          rw [if_neg (by decide)]
          have hb : e + (m.log2 : Int) ≤ 128 := hb.resolve_left h0
          generalize hmore : (2 * 54 - m.log2 + ((e - ((2 * 54 - m.log2 : Nat) : Int)) % 2).toNat : Nat) = more
          have heven : (e - (more : Int)) % 2 = 0 := by omega
          generalize hw : Ieee.Datum.rootFrom (m <<< more) ((m <<< more).log2 / 2 + 1) 0 = w
          have hsq : w * w ≤ m <<< more := by rw [← hw]; exact rootFrom_sq _ _ _ (by simp)
          generalize hodd : (w * w != m <<< more).toNat = b
          have hb1 : b ≤ 1 := by rw [← hodd]; cases (w * w != m <<< more) <;> decide
          show ∃ r, fconv .f64 (Ieee.double.nearest false (2 * w + b) ((e - (more : Int)) / 2 - 1)) .f32 = some r
          have hval : (2 * w + b) = 0 ∨ ((e - (more : Int)) / 2 - 1) + ((2 * w + b).log2 : Int) < 66 := by
            by_cases hw0 : w = 0
            · subst hw0
              by_cases hb0 : b = 0
              · left; omega
              · right
                have : b = 1 := by omega
                subst this
                have : (2 * 0 + 1).log2 = 0 := by decide
                omega
            · right
              rw [log_odd hw0 hb1]
              have h1 := log_sq hw0 hsq
              rw [log_shl h0] at h1
              omega
          obtain ⟨r, h1, h2⟩ := near_le Ieee.double false _ _ 66 (by decide) hval
          rw [h1]
          have h2 : r ≤ 1089 * 4503599627370496 := h2
          obtain ⟨m', e', h3, h4, _⟩ := read64_le false r 1089 h2 (by decide)
          exact fconv_small (s := false) (m := m') (e := e') h3 (by omega)
def rootF (x : Nat) : Nat := (fconv .f64 (fsqrt (up x)) .f32).getD 0
theorem rootF_eq (x : Nat) : fconv .f64 (fsqrt (up x)) .f32 = some (rootF x) := by
  obtain ⟨r, h⟩ := root_small x
  unfold rootF
  rw [h]; rfl
end Go.Proofs.Ytdbmbelllghdcaa.Ab

namespace Go.Proofs.Ytdbmbelllghdcaa.Ab
set_option linter.unusedVariables false
set_option linter.unusedSimpArgs false
open Go
def LE1 (m : Nat) (p : Int) : Prop := m = 0 ∨ p ≤ 0 ∧ m ≤ 2 ^ (-p).toNat
theorem LE1.log {m : Nat} {p : Int} (h : LE1 m p) : m = 0 ∨ p + (m.log2 : Int) < 0 ∨ (p + (m.log2 : Int) = 0 ∧ m = 2 ^ m.log2) := by
  rcases h with h | ⟨h1, h2⟩
  · exact .inl h
  by_cases hm : m = 0
  · exact .inl hm
  right
  have h3 : 2 ^ m.log2 ≤ m := Nat.log2_self_le hm
  have h4 : m.log2 ≤ (-p).toNat := (Nat.pow_le_pow_iff_right (by decide)).1 (Nat.le_trans h3 h2)
  by_cases h5 : m.log2 = (-p).toNat
  · right
    refine ⟨by omega, ?_⟩
    rw [← h5] at h2
    omega
  · left
    omega
theorem near1 (neg : Bool) {m : Nat} {p : Int} (h : LE1 m p) : ∃ r, Ieee.double.nearest neg m p = Ieee.double.word neg r ∧ r ≤ 1023 * 4503599627370496 := by
  rcases h.log with h | h | ⟨h1, h2⟩
  · exact near_le Ieee.double neg m p 0 (by decide) (.inl h)
  · exact near_le Ieee.double neg m p 0 (by decide) (.inr h)
  · unfold Ieee.Format.nearest
    by_cases hm : m = 0
    · exact near_le Ieee.double neg m p 0 (by decide) (.inl hm)
    rw [if_neg hm]
    refine ⟨_, rfl, Nat.le_trans (Nat.min_le_left _ _) ?_⟩
    have c2 : Ieee.double.binade = 4503599627370496 := by decide
    have c4 : Ieee.double.leastPlace = -1074 := by decide
    have c5 : Ieee.double.fractionBits = 52 := by decide
    rw [c2, c4, c5]
    generalize hL : m.log2 = L at *
    have hmax : max (p + (L : Int) - (52 : Nat)) (-1074) = -52 := by omega
    rw [hmax, show ((-52 : Int) - (-1074)).toNat = 1022 by decide]
    have key : Ieee.Toward.even.cut neg (m <<< (p - (-52)).toNat) ((-52) - p).toNat ≤ 4503599627370496 := by
      by_cases hp : L ≤ 52
      · rw [show ((-52 : Int) - p).toNat = 0 by omega, cut_zero, Nat.shiftLeft_eq, h2, ← Nat.pow_add, show L + (p - (-52)).toNat = 52 by omega]
        decide
      · rw [show (p - (-52)).toNat = 0 by omega, Nat.shiftLeft_zero]
        have hd : ((-52 : Int) - p).toNat = L - 52 := by omega
        rw [hd, h2]
        unfold Ieee.Toward.cut
        have hlog : (2 ^ L).log2 = L := Nat.log2_two_pow
        rw [hlog, Nat.min_eq_left (by omega), Nat.one_shiftLeft]
        have hdiv : 2 ^ L / 2 ^ (L - 52) = 4503599627370496 := by
          rw [Nat.pow_div (by omega) (by decide), show L - (L - 52) = 52 by omega]
        have hmod : 2 ^ L % 2 ^ (L - 52) = 0 := Nat.mod_eq_zero_of_dvd (Nat.pow_dvd_pow 2 (by omega))
        dsimp only
        rw [hdiv, hmod]
        have hpos : 0 < 2 ^ (L - 52) := Nat.pow_pos (by decide)
        have e1 : decide (2 ^ (L - 52) < 2 * 0) = false := decide_eq_false (by omega)
        have e2 : (2 ^ (L - 52) == 2 * 0) = false := by simp
        simp [e1, e2]
    omega
theorem read1 (neg : Bool) {r : Nat} (hr : r ≤ 1023 * 4503599627370496) : ∃ m e, Ieee.double.read (Ieee.double.word neg r) = .number neg m e ∧ LE1 m e ∧ (r = 0 → m = 0) ∧ -1074 ≤ e := by
  unfold Ieee.Format.read Ieee.Format.word
  have c1 : Ieee.double.signWeight = 9223372036854775808 := by decide
  have c2 : Ieee.double.binade = 4503599627370496 := by decide
  have c3 : Ieee.double.infRung = 9218868437227405312 := by decide
  have c4 : Ieee.double.leastPlace = -1074 := by decide
  simp only [c1, c2, c3, c4]
  have hm : (if neg = true then 9223372036854775808 + r else r) % 9223372036854775808 = r := by split <;> omega
  have hs : ((if neg = true then 9223372036854775808 + r else r) / 9223372036854775808 % 2 == 1) = neg := by
    cases neg
    · rw [if_neg (by decide), Nat.div_eq_of_lt (by omega)]; rfl
    · rw [if_pos rfl, Nat.add_div_left _ (by decide), Nat.div_eq_of_lt (by omega)]; rfl
  rw [hm, hs]
  split
  · rename_i h1
    refine ⟨_, _, rfl, .inr ⟨by decide, ?_⟩, fun h => h, by decide⟩
    exact Nat.le_trans (Nat.le_of_lt h1) (by rw [show (4503599627370496 : Nat) = 2 ^ 52 by decide]; exact Nat.pow_le_pow_right (by decide) (by decide))
  · rename_i h1
    rw [if_pos (by omega)]
    refine ⟨_, _, rfl, .inr ⟨by omega, ?_⟩, fun h => by omega, by omega⟩
    by_cases hq : r / 4503599627370496 = 1023
    · have hmod : r % 4503599627370496 = 0 := by omega
      rw [hq, hmod]
      decide
    · have h2 : r % 4503599627370496 < 4503599627370496 := Nat.mod_lt _ (by decide)
      have h3 : 53 ≤ (-(-1074 + ((r / 4503599627370496 - 1 : Nat) : Int))).toNat := by omega
      refine Nat.le_trans (show 4503599627370496 + r % 4503599627370496 ≤ 2 ^ 53 by omega) (Nat.pow_le_pow_right (by decide) h3)
def PU (y : Nat) : Prop := ∃ m e, Ieee.double.read y = .number false m e ∧ LE1 m e
def NU (y : Nat) : Prop := ∃ s m e, Ieee.double.read y = .number s m e ∧ LE1 m e ∧ (s = true ∨ m = 0) ∧ -1074 ≤ e
theorem LE1.mul {m n : Nat} {i j : Int} (h : LE1 m i) (k : LE1 n j) : LE1 (m * n) (i + j) := by
  rcases h with rfl | ⟨h1, h2⟩
  · exact .inl (by simp)
  rcases k with rfl | ⟨k1, k2⟩
  · exact .inl (by simp)
  right
  refine ⟨by omega, ?_⟩
  rw [show (-(i + j)).toNat = (-i).toNat + (-j).toNat by omega, Nat.pow_add]
  exact Nat.mul_le_mul h2 k2
theorem mul_num {x y : Nat} {s t : Bool} {m n : Nat} {i j : Int} (hx : Ieee.double.read x = .number s m i) (hy : Ieee.double.read y = .number t n j) : fop .mul .f64 x y = Ieee.double.nearest (s ^^ t) (m * n) (i + j) := by
  unfold fop floatBits
  show (Ieee.double.mul x y).getD _ = _
  unfold Ieee.Format.mul
  rw [hx, hy]
  rfl
theorem PU.mul {x y : Nat} (hx : PU x) (hy : PU y) : PU (fop .mul .f64 x y) := by
  obtain ⟨m, i, h1, h2⟩ := hx
  obtain ⟨n, j, k1, k2⟩ := hy
  rw [mul_num h1 k1]
  obtain ⟨r, h3, h4⟩ := near1 (false ^^ false) (h2.mul k2)
  rw [h3]
  obtain ⟨m', e', h5, h6, _⟩ := read1 (false ^^ false) h4
  exact ⟨m', e', h5, h6⟩
theorem nu_of {s : Bool} {m : Nat} {p : Int} (h : LE1 m p) (hs : s = true ∨ m = 0) : NU (Ieee.double.nearest s m p) := by
  by_cases hm : m = 0
  · subst hm
    have hz : Ieee.double.nearest s 0 p = Ieee.double.word s 0 := by unfold Ieee.Format.nearest; rw [if_pos rfl]
    rw [hz]
    obtain ⟨m', e', h5, h6, h7, h8⟩ := read1 s (show 0 ≤ 1023 * 4503599627370496 by decide)
    exact ⟨s, m', e', h5, h6, .inr (h7 rfl), h8⟩
  · obtain ⟨r, h3, h4⟩ := near1 s h
    rw [h3]
    obtain ⟨m', e', h5, h6, _, h8⟩ := read1 s h4
    exact ⟨s, m', e', h5, h6, .inl (hs.resolve_right hm), h8⟩
theorem NU.mul {x y : Nat} (hx : NU x) (hy : PU y) : NU (fop .mul .f64 x y) := by
  obtain ⟨s, m, i, h1, h2, h3, _⟩ := hx
  obtain ⟨n, j, k1, k2⟩ := hy
  rw [mul_num h1 k1]
  refine nu_of (h2.mul k2) ?_
  rcases h3 with rfl | rfl
  · exact .inl rfl
  · exact .inr (by simp)
theorem quo_le (D n E : Nat) (hn : 0 < n) (h : D ≤ n * 2 ^ E) : 2 * (D / n) + (D % n != 0).toNat ≤ 2 ^ (E + 1) := by
  rw [Nat.pow_succ]
  by_cases hr : D % n = 0
  · rw [hr]
    have : D / n ≤ 2 ^ E := by
      rw [Nat.div_le_iff_le_mul hn]
      rw [Nat.mul_comm] at h
      omega
    simp
    omega
  · have hlt : D < n * 2 ^ E := by
      refine Nat.lt_of_le_of_ne h fun he => hr ?_
      rw [he]
      exact Nat.mul_mod_right _ _
    have : D / n < 2 ^ E := by rw [Nat.div_lt_iff_lt_mul hn, Nat.mul_comm]; exact hlt
    have hb : (D % n != 0).toNat ≤ 1 := by cases (D % n != 0) <;> decide
    omega
theorem NU.quo {x y : Nat} {s : Bool} {m n : Nat} {i j : Int} (hx : Ieee.double.read x = .number s m i) (hy : Ieee.double.read y = .number false n j) (hn : 0 < n) (hs : s = true ∨ m = 0)
    (h : ∃ a b : Nat, m * 2 ^ a ≤ n * 2 ^ b ∧ (a : Int) - i = (b : Int) - j) : NU (fop .quo .f64 x y) := by
  obtain ⟨a, b, h1, h2⟩ := h
  have e : fop .quo .f64 x y = Ieee.double.nearest (s ^^ false) (2 * ((m <<< (54 + n.log2 - m.log2)) / n) + ((m <<< (54 + n.log2 - m.log2)) % n != 0).toNat) (i - j - ((54 + n.log2 - m.log2 : Nat) : Int) - 1) := by
    unfold fop floatBits
    show (Ieee.double.div x y).getD _ = _
    unfold Ieee.Format.div
    rw [hx, hy]
    unfold Ieee.Datum.quotient
    dsimp only
    rw [if_neg (by omega)]
    rfl
  rw [e]
  by_cases hm : m = 0
  · subst hm
    have : 2 * ((0 <<< (54 + n.log2 - (0 : Nat).log2)) / n) + ((0 <<< (54 + n.log2 - (0 : Nat).log2)) % n != 0).toNat = 0 := by simp
    rw [this]
    exact nu_of (.inl rfl) (.inr rfl)
  have hs : s = true := hs.resolve_right hm
  subst hs
  generalize hmore : 54 + n.log2 - m.log2 = more
  have hE : 0 ≤ (more : Int) + j - i := by
    have h3 : 2 ^ m.log2 ≤ m := Nat.log2_self_le hm
    have h4 : n < 2 ^ (n.log2 + 1) := Nat.lt_log2_self
    have h5 : 2 ^ (m.log2 + a) < 2 ^ (n.log2 + 1 + b) := by
      rw [Nat.pow_add, Nat.pow_add]
      exact Nat.lt_of_le_of_lt (Nat.mul_le_mul_right _ h3) (Nat.lt_of_le_of_lt h1 (Nat.mul_lt_mul_of_pos_right h4 (Nat.pow_pos (by decide))))
    have h6 := (Nat.pow_lt_pow_iff_right (by decide)).1 h5
    omega
  have hD : m <<< more ≤ n * 2 ^ ((more : Int) + j - i).toNat := by
    rw [Nat.shiftLeft_eq]
    have hp : 0 < 2 ^ a := Nat.pow_pos (by decide)
    refine Nat.le_of_mul_le_mul_right (?_ : m * 2 ^ more * 2 ^ a ≤ n * 2 ^ ((more : Int) + j - i).toNat * 2 ^ a) hp
    calc m * 2 ^ more * 2 ^ a = m * 2 ^ a * 2 ^ more := by rw [Nat.mul_right_comm]
      _ ≤ n * 2 ^ b * 2 ^ more := Nat.mul_le_mul_right _ h1
      _ = n * (2 ^ (b + more)) := by rw [Nat.mul_assoc, Nat.pow_add]
      _ = n * (2 ^ (((more : Int) + j - i).toNat + a)) := by rw [show b + more = ((more : Int) + j - i).toNat + a by omega]
      _ = n * 2 ^ ((more : Int) + j - i).toNat * 2 ^ a := by rw [Nat.pow_add, Nat.mul_assoc]
  refine nu_of (.inr ⟨by omega, ?_⟩) (.inl rfl)
  rw [show (-(i - j - (more : Int) - 1)).toNat = ((more : Int) + j - i).toNat + 1 by omega]
  exact quo_le _ _ _ hn hD
theorem NU.one {x : Nat} (hx : NU x) : PU (fop .add .f64 4607182418800017408 x) := by
  obtain ⟨s, n, j, h1, h2, h3, hj⟩ := hx
  have hone : Ieee.double.read 4607182418800017408 = .number false 4503599627370496 (-52) := by decide +kernel
  have e : fop .add .f64 4607182418800017408 x = ((((Ieee.Datum.number false 4503599627370496 (-52)).sum (.number s n j))).map Ieee.double.write).getD (qnan .f64) := by
    unfold fop floatBits
    show (Ieee.double.add 4607182418800017408 x).getD _ = _
    unfold Ieee.Format.add
    rw [hone, h1]
  rw [e]
  unfold Ieee.Datum.sum
  dsimp only
  generalize hb : min (-52 : Int) j = base
  have hbase : base ≤ -52 := by omega
  have t1 : Ieee.signed false 4503599627370496 (-52 - base).toNat = ((2 ^ (-base).toNat : Nat) : Int) := by
    unfold Ieee.signed
    rw [if_neg (by decide), Nat.shiftLeft_eq, show (4503599627370496 : Nat) = 2 ^ 52 by decide, ← Nat.pow_add, show 52 + (-52 - base).toNat = (-base).toNat by omega]
  have t2 : ∃ c : Nat, Ieee.signed s n (j - base).toNat = -(c : Int) ∧ c ≤ 2 ^ (-base).toNat := by
    rcases h2 with rfl | ⟨k1, k2⟩
    · exact ⟨0, by unfold Ieee.signed; cases s <;> simp, Nat.zero_le _⟩
    · rcases h3 with rfl | rfl
      · refine ⟨n <<< (j - base).toNat, by unfold Ieee.signed; rw [if_pos rfl], ?_⟩
        rw [Nat.shiftLeft_eq, show (-base).toNat = (-j).toNat + (j - base).toNat by omega, Nat.pow_add]
        exact Nat.mul_le_mul_right _ k2
      · exact ⟨0, by unfold Ieee.signed; cases s <;> simp, Nat.zero_le _⟩
  obtain ⟨c, t2, t3⟩ := t2
  rw [t1, t2]
  generalize hT : 2 ^ (-base).toNat = T at t3
  have hneg : (if ((T : Nat) : Int) + -(c : Int) = 0 then (false && s) else decide (((T : Nat) : Int) + -(c : Int) < 0)) = false := by
    split
    · rfl
    · exact decide_eq_false (by omega)
  rw [hneg]
  show PU (Ieee.double.nearest false (((T : Nat) : Int) + -(c : Int)).natAbs base)
  rw [show (((T : Nat) : Int) + -(c : Int)).natAbs = T - c by omega]
  have hle : LE1 (T - c) base := .inr ⟨by omega, by rw [hT]; omega⟩
  obtain ⟨r, h3, h4⟩ := near1 false hle
  rw [h3]
  obtain ⟨m', e', h5, h6, _⟩ := read1 false h4
  exact ⟨m', e', h5, h6⟩
def eS (t p k : Nat) : Nat := fop .add .f64 4607182418800017408 (fop .quo .f64 (fop .mul .f64 t p) k)
def eP (t : Nat) : Nat := eS t (eS t (eS t (eS t (eS t (eS t (eS t (eS t (eS t (eS t (eS t (eS t 4607182418800017408 4622945017495814144) 4622382067542392832) 4621819117588971520) 4621256167635550208) 4620693217682128896) 4619567317775286272) 4618441417868443648) 4617315517961601024) 4616189618054758400) 4613937818241073152) 4611686018427387904) 4607182418800017408
def eQ (p : Nat) : Nat := fop .mul .f64 p p
def expV (x : Nat) : Nat := eQ (eQ (eQ (eQ (eQ (eQ (eQ (eQ (eP (fop .quo .f64 x 4643211215818981376)))))))))
def expD (x : Nat) : Nat := cond (gtD x 4641240890982006784) 9218868437227405312 (cond (ltD x 13864612927836782592) 0 (expV x))
end Go.Proofs.Ytdbmbelllghdcaa.Ab

namespace Go.Proofs.Ytdbmbelllghdcaa.Ab
set_option linter.unusedVariables false
set_option linter.unusedSimpArgs false
open Go
def expOk (x : Nat) : Bool := (fconv .f64 (expD (up x)) .f32).isSome
def expF (x : Nat) : Nat := (fconv .f64 (expD (up x)) .f32).getD 0
end Go.Proofs.Ytdbmbelllghdcaa.Ab

namespace Go.Proofs.Ytdbmbelllghdcaa.Ab
set_option linter.unusedVariables false
set_option linter.unusedSimpArgs false
open Go
def Bel (B : Int) (x : Nat) : Prop := ∃ s m e, FloatKind.f32.format.read x = .number s m e ∧ (m = 0 ∨ e + (m.log2 : Int) < B)
theorem Bel.mono {A B : Int} {x : Nat} (h : Bel A x) (hAB : A ≤ B) : Bel B x := by
  obtain ⟨s, m, e, h, h2⟩ := h
  exact ⟨s, m, e, h, by omega⟩
theorem log_mul {m n : Nat} (hm : m ≠ 0) (hn : n ≠ 0) : (m * n).log2 ≤ m.log2 + n.log2 + 1 := by
  have h1 : m < 2 ^ (m.log2 + 1) := Nat.lt_log2_self
  have h2 : n < 2 ^ (n.log2 + 1) := Nat.lt_log2_self
  have h3 : m * n < 2 ^ (m.log2 + n.log2 + 2) := by
    rw [show m.log2 + n.log2 + 2 = (m.log2 + 1) + (n.log2 + 1) by omega, Nat.pow_add]
    exact Nat.mul_lt_mul'' h1 h2
  have := (Nat.log2_lt (Nat.mul_ne_zero hm hn)).2 h3
  omega
theorem signed_abs (s : Bool) (m k : Nat) : (Ieee.signed s m k).natAbs = m * 2 ^ k := by
  unfold Ieee.signed
  cases s
  · rw [if_neg (by decide), Nat.shiftLeft_eq]; exact Int.natAbs_natCast _
  · rw [if_pos rfl, Nat.shiftLeft_eq, Int.natAbs_neg]; exact Int.natAbs_natCast _
end Go.Proofs.Ytdbmbelllghdcaa.Ab

namespace Go.Proofs.Ytdbmbelllghdcaa.Ab
set_option linter.unusedVariables false
set_option linter.unusedSimpArgs false
open Go
def BelD (B : Int) (x : Nat) : Prop := ∃ s m e, Ieee.double.read x = .number s m e ∧ (m = 0 ∨ e + (m.log2 : Int) < B)
theorem BelD.mono {A B : Int} {x : Nat} (h : BelD A x) (hAB : A ≤ B) : BelD B x := by
  obtain ⟨s, m, e, h, h2⟩ := h
  exact ⟨s, m, e, h, by omega⟩
theorem beld_near {s : Bool} {m : Nat} {p B : Int} (h : m = 0 ∨ p + (m.log2 : Int) < B) (h1 : -1000 ≤ B) (h2 : B ≤ 1000) : BelD (B + 1) (Ieee.double.nearest s m p) := by
  obtain ⟨r, h3, h4⟩ := near_le Ieee.double s m p B (by show (-1074 : Int) + 52 ≤ B; omega) h
  have h4 : r ≤ (B - (-1074) - 52 + 1).toNat * 4503599627370496 := h4
  rw [h3]
  obtain ⟨m', e', h5, h6, _⟩ := read64_le s r (B - (-1074) - 52 + 1).toNat h4 (by omega)
  exact ⟨s, m', e', h5, by omega⟩
theorem beld_mul {A B : Int} {x y : Nat} (hx : BelD A x) (hy : BelD B y) (h1 : -1000 ≤ A + B) (h2 : A + B ≤ 1000) : BelD (A + B + 1) (fop .mul .f64 x y) := by
  obtain ⟨s, m, i, hx, hm⟩ := hx
  obtain ⟨t, n, j, hy, hn⟩ := hy
  rw [mul_num hx hy]
  refine beld_near ?_ h1 h2
  by_cases m0 : m = 0
  · left; rw [m0, Nat.zero_mul]
  by_cases n0 : n = 0
  · left; rw [n0, Nat.mul_zero]
  right
  have := log_mul m0 n0
  omega
theorem sum_log {s t : Bool} {m n : Nat} {i j B : Int} (hm : m = 0 ∨ i + (m.log2 : Int) < B) (hn : n = 0 ∨ j + (n.log2 : Int) < B) :
    (Ieee.signed s m (i - min i j).toNat + Ieee.signed t n (j - min i j).toNat).natAbs = 0 ∨ min i j + (((Ieee.signed s m (i - min i j).toNat + Ieee.signed t n (j - min i j).toNat).natAbs).log2 : Int) < B + 1 := by
  generalize hbase : min i j = base
  generalize hT : (Ieee.signed s m (i - base).toNat + Ieee.signed t n (j - base).toNat).natAbs = T
  by_cases T0 : T = 0
  · exact .inl T0
  right
  have hle : T ≤ m * 2 ^ (i - base).toNat + n * 2 ^ (j - base).toNat := by
    rw [← hT, ← signed_abs s, ← signed_abs t]
    exact Int.natAbs_add_le _ _
  have hbB : base < B := by
    rcases hm with h | h
    · rcases hn with k | k
      · subst h; subst k; omega
      · omega
    · omega
  have key : ∀ (q : Nat) (l : Int), base ≤ l → (q = 0 ∨ l + (q.log2 : Int) < B) → q * 2 ^ (l - base).toNat < 2 ^ (B - base).toNat := by
    intro q l hl h
    by_cases hq : q = 0
    · subst hq
      rw [Nat.zero_mul]
      exact Nat.pow_pos (by decide)
    · have h := h.resolve_left hq
      have h3 : q < 2 ^ (q.log2 + 1) := Nat.lt_log2_self
      refine Nat.lt_of_lt_of_le (Nat.mul_lt_mul_of_pos_right h3 (Nat.pow_pos (by decide))) ?_
      rw [← Nat.pow_add]
      exact Nat.pow_le_pow_right (by decide) (by omega)
  have k1 := key m i (by omega) hm
  have k2 := key n j (by omega) hn
  have h3 : T < 2 ^ ((B - base).toNat + 1) := by
    rw [Nat.pow_succ]
    omega
  have := (Nat.log2_lt T0).2 h3
  omega
theorem beld_sub {B : Int} {x y : Nat} (hx : BelD B x) (hy : BelD B y) (h1 : -1000 ≤ B) (h2 : B ≤ 999) : BelD (B + 2) (fop .sub .f64 x y) := by
  obtain ⟨s, m, i, hx, hm⟩ := hx
  obtain ⟨t, n, j, hy, hn⟩ := hy
  have e : ∃ b : Bool, fop .sub .f64 x y = Ieee.double.nearest b (Ieee.signed s m (i - min i j).toNat + Ieee.signed (!t) n (j - min i j).toNat).natAbs (min i j) := by
    unfold fop floatBits
    show ∃ b : Bool, (Ieee.double.sub x y).getD _ = _
    unfold Ieee.Format.sub
    rw [hx, hy]
    exact ⟨_, rfl⟩
  obtain ⟨b, e⟩ := e
  rw [e, show B + 2 = (B + 1) + 1 by omega]
  exact beld_near (sum_log hm hn) (by omega) (by omega)
theorem beld_quo {A : Int} {x y n : Nat} {j : Int} (hx : BelD A x) (hy : Ieee.double.read y = .number false n j) (hn : n ≠ 0) (hj : 0 ≤ j + (n.log2 : Int)) (h1 : -1000 ≤ A) (h2 : A ≤ 1000) : BelD (A + 1) (fop .quo .f64 x y) := by
  obtain ⟨s, m, i, hx, hm⟩ := hx
  have e : fop .quo .f64 x y = Ieee.double.nearest (s ^^ false) (2 * ((m <<< (54 + n.log2 - m.log2)) / n) + ((m <<< (54 + n.log2 - m.log2)) % n != 0).toNat) (i - j - ((54 + n.log2 - m.log2 : Nat) : Int) - 1) := by
    unfold fop floatBits
    show (Ieee.double.div x y).getD _ = _
    unfold Ieee.Format.div
    rw [hx, hy]
    unfold Ieee.Datum.quotient
    dsimp only
    rw [if_neg hn]
    rfl
  rw [e]
  refine beld_near ?_ h1 h2
  by_cases m0 : m = 0
  · subst m0
    left
    simp
  have hm := hm.resolve_left m0
  generalize hmore : 54 + n.log2 - m.log2 = more
  have hb : (m <<< more % n != 0).toNat ≤ 1 := by cases (m <<< more % n != 0) <;> decide
  have h3 : m < 2 ^ (m.log2 + 1) := Nat.lt_log2_self
  have h4 : 2 ^ n.log2 ≤ n := Nat.log2_self_le hn
  have h5 : m <<< more / n < 2 ^ (m.log2 + 1 + more - n.log2) := by
    rw [Nat.div_lt_iff_lt_mul (by omega), Nat.shiftLeft_eq]
    have q1 : m * 2 ^ more < 2 ^ (m.log2 + 1) * 2 ^ more := Nat.mul_lt_mul_of_pos_right h3 (Nat.pow_pos (by decide))
    have q2 : 2 ^ (m.log2 + 1 + more - n.log2) * 2 ^ n.log2 ≤ 2 ^ (m.log2 + 1 + more - n.log2) * n := Nat.mul_le_mul_left _ h4
    rw [← Nat.pow_add] at q1 q2
    rw [show m.log2 + 1 + more - n.log2 + n.log2 = m.log2 + 1 + more by omega] at q2
    exact Nat.lt_of_lt_of_le q1 q2
  generalize m <<< more / n = q at *
  generalize (m <<< more % n != 0).toNat = b at *
  by_cases q0 : 2 * q + b = 0
  · exact .inl q0
  right
  have h6 : 2 * q + b < 2 ^ (m.log2 + 1 + more - n.log2 + 1) := by
    rw [Nat.pow_succ]
    omega
  have := (Nat.log2_lt q0).2 h6
  omega
theorem beld_conv {y : Nat} (h : BelD 127 y) : ∃ r, fconv .f64 y .f32 = some r := by
  obtain ⟨s, m, e, h1, h2⟩ := h
  exact fconv_small (s := s) (m := m) (e := e) h1 h2
theorem neg_read {x : Nat} {s : Bool} {m : Nat} {e : Int} (h : Ieee.double.read x = .number s m e) : Ieee.double.read (Op.negFloat .f64 x) = .number (!s) m e := by
  have h1 : Op.negFloat .f64 x % 9223372036854775808 = x % 9223372036854775808 := by
    unfold Op.negFloat
    rw [show (9223372036854775808 : Nat) = 2 ^ 63 by decide, Nat.xor_mod_two_pow]
    show x % 2 ^ 63 ^^^ 2 ^ 63 % 2 ^ 63 = _
    simp
  have h2 : (Op.negFloat .f64 x / 9223372036854775808 % 2 == 1) = !(x / 9223372036854775808 % 2 == 1) := by
    have e1 : ∀ y : Nat, (y / 9223372036854775808 % 2 == 1) = y.testBit 63 := by
      intro y
      rw [Nat.testBit_eq_decide_div_mod_eq, show (2 : Nat) ^ 63 = 9223372036854775808 by decide]
      by_cases hy : y / 9223372036854775808 % 2 = 1 <;> simp [hy]
    rw [e1, e1]
    unfold Op.negFloat
    rw [Nat.testBit_xor]
    have h63 : Nat.testBit (2 ^ (FloatKind.f64.format.exponentBits + FloatKind.f64.format.fractionBits)) 63 = true := by decide +kernel
    rw [h63]
    cases x.testBit 63 <;> rfl
  have c1 : Ieee.double.signWeight = 9223372036854775808 := by decide
  unfold Ieee.Format.read at h ⊢
  rw [c1] at h ⊢
  rw [h1, h2]
  generalize (x / 9223372036854775808 % 2 == 1) = b at *
  generalize x % 9223372036854775808 = r at *
  dsimp only at h ⊢
  split at h
  · rename_i hr
    rw [if_pos hr]
    cases h
    rfl
  · rename_i hr
    rw [if_neg hr]
    split at h
    · rename_i hr2
      rw [if_pos hr2]
      cases h
      rfl
    · split at h <;> cases h
theorem beld_neg {B : Int} {x : Nat} (h : BelD B x) : BelD B (fneg .f64 x) := by
  obtain ⟨s, m, e, hx, hm⟩ := h
  refine ⟨!s, m, e, ?_, hm⟩
  unfold fneg
  rw [canon_of (by rw [isN_neg]; unfold isN; show (Ieee.double.read x).isNaN = false; rw [hx]; rfl)]
  exact neg_read hx
theorem near_exact (s : Bool) {m : Nat} {p : Int} (hp : -1074 ≤ p) (hm : m < 9007199254740992) (hb : m = 0 ∨ p + (m.log2 : Int) ≤ 1023) :
    ∃ m' p', Ieee.double.read (Ieee.double.nearest s m p) = .number s m' p' ∧ -1074 ≤ p' ∧ p' ≤ p ∧ m' = m * 2 ^ (p - p').toNat ∧ m' < 9007199254740992 := by
  by_cases m0 : m = 0
  · subst m0
    have hz : Ieee.double.nearest s 0 p = Ieee.double.word s 0 := by unfold Ieee.Format.nearest; rw [if_pos rfl]
    rw [hz]
    refine ⟨0, -1074, by cases s <;> decide +kernel, by decide, hp, by simp, by decide⟩
  have hb := hb.resolve_left m0
  have hL : m.log2 < 53 := (Nat.log2_lt m0).2 hm
  unfold Ieee.Format.nearest
  rw [if_neg m0]
  have c1 : Ieee.double.signWeight = 9223372036854775808 := by decide
  have c2 : Ieee.double.binade = 4503599627370496 := by decide
  have c3 : Ieee.double.infRung = 9218868437227405312 := by decide
  have c4 : Ieee.double.leastPlace = -1074 := by decide
  have c5 : Ieee.double.fractionBits = 52 := by decide
  rw [c2, c3, c4, c5]
  dsimp only
  generalize hlast : max (p + (m.log2 : Int) - ((52 : Nat) : Int)) (-1074) = last
  have hl1 : last ≤ p := by omega
  have hl2 : -1074 ≤ last := by omega
  rw [show (last - p).toNat = 0 by omega, cut_zero, Nat.shiftLeft_eq]
  have hk : m * 2 ^ (p - last).toNat < 9007199254740992 := by
    have h1 : m < 2 ^ (m.log2 + 1) := Nat.lt_log2_self
    have h2 : m * 2 ^ (p - last).toNat < 2 ^ (m.log2 + 1) * 2 ^ (p - last).toNat := Nat.mul_lt_mul_of_pos_right h1 (Nat.pow_pos (by decide))
    rw [← Nat.pow_add] at h2
    exact Nat.lt_of_lt_of_le h2 (Nat.le_trans (Nat.pow_le_pow_right (by decide) (show m.log2 + 1 + (p - last).toNat ≤ 53 by omega)) (by decide))
  have hk2 : last = -1074 ∨ 4503599627370496 ≤ m * 2 ^ (p - last).toNat := by
    by_cases h : last = -1074
    · exact .inl h
    · right
      have h1 : 2 ^ m.log2 ≤ m := Nat.log2_self_le m0
      have h2 : 2 ^ m.log2 * 2 ^ (p - last).toNat ≤ m * 2 ^ (p - last).toNat := Nat.mul_le_mul_right _ h1
      rw [← Nat.pow_add, show m.log2 + (p - last).toNat = 52 by omega] at h2
      exact Nat.le_trans (by decide) h2
  generalize hK : m * 2 ^ (p - last).toNat = K at hk hk2
  refine ⟨K, last, ?_, hl2, hl1, hK.symm, hk⟩
  generalize hl : (last - -1074).toNat = l
  have hl3 : l ≤ 2045 := by omega
  have hle : l * 4503599627370496 + K ≤ 9218868437227405312 := by clear hl hl1 hl2 hk2 hK hlast hb hL; omega
  have hmin : min (l * 4503599627370496 + K) 9218868437227405312 = l * 4503599627370496 + K := Nat.min_eq_left hle
  rw [hmin]
  unfold Ieee.Format.read Ieee.Format.word
  rw [c1, c2, c3, c4]
  dsimp only
  clear hl1 hK hlast hb hL hmin
  generalize hR : l * 4503599627370496 + K = R at hle ⊢
  have hmm : (if s = true then 9223372036854775808 + R else R) % 9223372036854775808 = R := by split <;> omega
  have hs : ((if s = true then 9223372036854775808 + R else R) / 9223372036854775808 % 2 == 1) = s := by
    cases s
    · rw [if_neg (by decide), Nat.div_eq_of_lt (by omega)]; rfl
    · rw [if_pos rfl, Nat.add_div_left _ (by decide), Nat.div_eq_of_lt (by omega)]; rfl
  rw [hmm, hs]
  by_cases hc : 4503599627370496 ≤ K
  · rw [if_neg (by omega), if_pos (by omega)]
    have e1 : R / 4503599627370496 = l + 1 := by omega
    have e2 : R % 4503599627370496 = K - 4503599627370496 := by omega
    rw [e1, e2, show 4503599627370496 + (K - 4503599627370496) = K by omega, show (-1074 : Int) + ((l + 1 - 1 : Nat) : Int) = last by omega]
  · have hl0 : l = 0 := by omega
    rw [if_pos (by omega), show R = K by omega, show last = -1074 by omega]
def Zv (s : Bool) (m : Nat) (p : Int) : Int := Ieee.signed s m (p + 1074).toNat
theorem signed_add (s : Bool) (m a b : Nat) : Ieee.signed s m (a + b) = Ieee.signed s m a * ((2 ^ b : Nat) : Int) := by
  unfold Ieee.signed
  rw [Nat.shiftLeft_eq, Nat.shiftLeft_eq, Nat.pow_add, ← Nat.mul_assoc]
  cases s
  · rw [if_neg (by decide), if_neg (by decide)]; exact Int.natCast_mul _ _
  · rw [if_pos rfl, if_pos rfl, Int.natCast_mul, Int.neg_mul]
theorem Zv_base {s : Bool} {m : Nat} {p base : Int} (h1 : base ≤ p) (h2 : -1074 ≤ base) : Zv s m p = Ieee.signed s m (p - base).toNat * ((2 ^ (base + 1074).toNat : Nat) : Int) := by
  unfold Zv
  rw [← signed_add, show (p - base).toNat + (base + 1074).toNat = (p + 1074).toNat by omega]
theorem Zv_shift (s : Bool) {m : Nat} {p q : Int} (h1 : q ≤ p) (h2 : -1074 ≤ q) : Zv s (m * 2 ^ (p - q).toNat) q = Zv s m p := by
  unfold Zv Ieee.signed
  rw [Nat.shiftLeft_eq, Nat.shiftLeft_eq, Nat.mul_assoc, ← Nat.pow_add, show (p - q).toNat + (q + 1074).toNat = (p + 1074).toNat by omega]
theorem near_Z (s : Bool) {m : Nat} {p : Int} (hp : -1074 ≤ p) (hm : m < 9007199254740992) (hb : m = 0 ∨ p + (m.log2 : Int) ≤ 1023) :
    ∃ m' p', Ieee.double.read (Ieee.double.nearest s m p) = .number s m' p' ∧ -1074 ≤ p' ∧ p' ≤ p ∧ Zv s m' p' = Zv s m p := by
  obtain ⟨m', p', h1, h2, h3, h4, _⟩ := near_exact s hp hm hb
  exact ⟨m', p', h1, h2, h3, by rw [h4]; exact Zv_shift s h3 h2⟩
theorem compare_mul {a b c : Int} (h : 0 < c) : compare (a * c) (b * c) = compare a b := by
  rcases Int.lt_trichotomy a b with h1 | h1 | h1
  · rw [Int.compare_eq_lt.2 h1, Int.compare_eq_lt.2 (Int.mul_lt_mul_of_pos_right h1 h)]
  · subst h1
    rw [Int.compare_eq_eq.2 rfl, Int.compare_eq_eq.2 rfl]
  · rw [Int.compare_eq_gt.2 h1, Int.compare_eq_gt.2 (Int.mul_lt_mul_of_pos_right h1 h)]
theorem order_Z {x y : Nat} {s t : Bool} {m n : Nat} {i j : Int} (hx : Ieee.double.read x = .number s m i) (hy : Ieee.double.read y = .number t n j) (hi : -1074 ≤ i) (hj : -1074 ≤ j) :
    FloatKind.f64.format.order x y = some (compare (Zv s m i) (Zv t n j)) := by
  show Ieee.double.order x y = _
  unfold Ieee.Format.order
  rw [hx, hy]
  unfold Ieee.Datum.order
  dsimp only
  rw [Zv_base (show min i j ≤ i by omega) (by omega), Zv_base (show min i j ≤ j by omega) (by omega), compare_mul]
  exact Int.natCast_pos.2 (Nat.pow_pos (by decide))
theorem read_place {x : Nat} {s : Bool} {m : Nat} {e : Int} (h : Ieee.double.read x = .number s m e) : -1074 ≤ e ∧ m < 9007199254740992 ∧ (m < 4503599627370496 → e = -1074) ∧ e ≤ 971 := by
  unfold Ieee.Format.read at h
  have c1 : Ieee.double.signWeight = 9223372036854775808 := by decide
  have c2 : Ieee.double.binade = 4503599627370496 := by decide
  have c3 : Ieee.double.infRung = 9218868437227405312 := by decide
  have c4 : Ieee.double.leastPlace = -1074 := by decide
  rw [c1, c2, c3, c4] at h
  dsimp only at h
  split at h
  · cases h
    omega
  · split at h
    · cases h
      omega
    · split at h <;> cases h
end Go.Proofs.Ytdbmbelllghdcaa.Ab

namespace Go.Proofs.Ytdbmbelllghdcaa.Ab
set_option linter.unusedVariables false
set_option linter.unusedSimpArgs false
open Go
def integD (way : Ieee.Toward) (x : Nat) : Nat := match FloatKind.f64.decode x with
  | .nan _ _ => qnan .f64
  | .number s m p => FloatKind.f64.encode ((Ieee.Datum.number s m p).integral way)
  | .infinity s => FloatKind.f64.encode ((Ieee.Datum.infinity s).integral way)
def gInteg (way : Ieee.Toward) : GT := fun vs h => match vs, h with | [.fl .f64 x], [] => .ret (.fl .f64 (integD way x)) [] | _, _ => .no
theorem integ_nan {way : Ieee.Toward} {b : Nat} (h : isN .f64 b = true) : integD way (canon .f64 b) = qnan .f64 := by
  rw [canon_nan h]
  unfold integD
  have : FloatKind.f64.decode (qnan .f64) = .nan false 2251799813685248 := by decide +kernel
  rw [this]
theorem integ_ok {P : Program} {f : FuncId} {fn : Func} {nm : String} {way : Ieee.Toward} (hf : P.funcs[f]? = some fn) (hname : (fn.name == "runtime.NumGoroutine") = false) (hb : fn.body.isNone = true) (hn : Extern.findNext fn = none) (he : Extern.find fn = some (Extern.MathFloor.toIntegral nm way)) : FnT P f (gInteg way) := by
  refine ext_ok hf hname hb hn he fun vs hp v h' e => ?_
  unfold gInteg at e
  split at e
  case h_2 => exact (T.no_inv e).elim
  obtain ⟨rfl, rfl⟩ := T.ret_inv e
  refine ⟨rfl, rfl, fun μ cvs w hv => ?_⟩
  obtain ⟨c, rfl, b, rfl, rfl⟩ := rep_one hv
  have hrun : (Extern.MathFloor.toIntegral nm way) ⟨[Value.float .f64 b]⟩ = (match FloatKind.f64.decode b with
      | .nan s t =>
        if FloatKind.f64.format.quiet t = t then pure (.float .f64 b) else do
        let kept ← choose (.extern "math.Floor,Ceil,Trunc,RoundToEven.signallingNaN kept" 2)
        pure (.float .f64 (if kept == 1 then b else FloatKind.f64.encode (.nan s (FloatKind.f64.format.quiet t))))
      | d => pure (.float .f64 (FloatKind.f64.encode (d.integral way)))) := rfl
  rw [hrun]
  cases e : FloatKind.f64.decode b with
  | number s m p =>
    have hnb : isN .f64 b = false := by unfold isN; rw [e]; rfl
    refine ⟨.float .f64 (FloatKind.f64.encode ((Ieee.Datum.number s m p).integral way)), 0, rfl, _, rfl, ?_⟩
    rw [canon_of hnb]
    unfold integD
    rw [e]
    exact canon_of (isN_write .f64 (d := (Ieee.Datum.number s m p).integral way) rfl)
  | infinity s =>
    have hnb : isN .f64 b = false := by unfold isN; rw [e]; rfl
    refine ⟨.float .f64 (FloatKind.f64.encode ((Ieee.Datum.infinity s).integral way)), 0, rfl, _, rfl, ?_⟩
    rw [canon_of hnb]
    unfold integD
    rw [e]
    exact canon_of (isN_write .f64 (d := (Ieee.Datum.infinity s).integral way) rfl)
  | nan s t =>
    have hnb : isN .f64 b = true := by unfold isN; rw [e]; rfl
    rw [integ_nan hnb]
    dsimp only
    split
    · exact ⟨.float .f64 b, 0, rfl, _, rfl, canon_nan hnb⟩
    · rename_i hq
      refine ⟨_, 1, rfl, _, rfl, canon_nan ?_⟩
      split
      · exact hnb
      · have hnz : (FloatKind.f64.decode (FloatKind.f64.encode (.nan s (FloatKind.f64.format.quiet t)))).isNaN = true := by
          show (Ieee.double.read (Ieee.double.word s (9218868437227405312 + (t ||| 2251799813685248) % 4503599627370496))).isNaN = true
          have hlo : 2251799813685248 ≤ (t ||| 2251799813685248) % 4503599627370496 := by
            rw [show (4503599627370496 : Nat) = 2 ^ 52 by decide, Nat.or_mod_two_pow]
            exact Nat.right_le_or
          have hhi : (t ||| 2251799813685248) % 4503599627370496 < 4503599627370496 := Nat.mod_lt _ (by decide)
          generalize (t ||| 2251799813685248) % 4503599627370496 = q at hlo hhi
          have c1 : Ieee.double.signWeight = 9223372036854775808 := by decide
          have c2 : Ieee.double.binade = 4503599627370496 := by decide
          have c3 : Ieee.double.infRung = 9218868437227405312 := by decide
          unfold Ieee.Format.read Ieee.Format.word
          rw [c1, c2, c3]
          have hmm : (if s = true then 9223372036854775808 + (9218868437227405312 + q) else 9218868437227405312 + q) % 9223372036854775808 = 9218868437227405312 + q := by split <;> omega
          dsimp only
          rw [hmm, if_neg (by omega), if_neg (by omega), if_neg (by omega)]
          rfl
        exact hnz
theorem cutZ (s : Bool) (n drop : Nat) : Ieee.Toward.zero.cut s n drop = n / 2 ^ drop := by
  unfold Ieee.Toward.cut
  simp only [Nat.one_shiftLeft, Bool.toNat_false, Nat.add_zero]
  by_cases h : drop ≤ n.log2 + 2
  · rw [Nat.min_eq_left h]
  · rw [Nat.min_eq_right (by omega)]
    have h1 : n < 2 ^ (n.log2 + 1) := Nat.lt_log2_self
    rw [Nat.div_eq_of_lt (Nat.lt_of_lt_of_le h1 (Nat.pow_le_pow_right (by decide) (by omega))), Nat.div_eq_of_lt (Nat.lt_of_lt_of_le h1 (Nat.pow_le_pow_right (by decide) (by omega)))]
theorem toInt_num {x : Nat} {s : Bool} {m : Nat} {p : Int} (hx : Ieee.double.read x = .number s m p) (hp : p ≤ 0) :
    floatToIntVal .f64 x .i64 = some (Ieee.signed s (m / 2 ^ (-p).toNat) 0) := by
  have hb := (read_place hx).2.1
  have hq : m / 2 ^ (-p).toNat < 9007199254740992 := Nat.lt_of_le_of_lt (Nat.div_le_self _ _) hb
  unfold floatToIntVal
  have hd : FloatKind.f64.decode x = .number s m p := hx
  rw [hd]
  have ht : (Ieee.Datum.number s m p).toInt .zero = some (Ieee.signed s (m / 2 ^ (-p).toNat) 0) := by
    unfold Ieee.Datum.toInt Ieee.Datum.integral
    dsimp only
    rw [cutZ, show p.toNat = 0 by omega, Nat.shiftLeft_zero]
  rw [ht]
  dsimp only
  rw [if_pos]
  generalize m / 2 ^ (-p).toNat = q at hq
  unfold Ieee.signed
  rw [Nat.shiftLeft_zero]
  have h1 : IntKind.i64.min = -9223372036854775808 := by decide
  have h2 : IntKind.i64.max = 9223372036854775807 := by decide
  rw [h1, h2]
  split <;> omega
theorem trunc_num {x : Nat} {s : Bool} {m : Nat} {p : Int} (hx : Ieee.double.read x = .number s m p) (hp : p < 0) :
    integD .zero x = Ieee.double.nearest s (m / 2 ^ (-p).toNat) 0 := by
  unfold integD
  have hd : FloatKind.f64.decode x = .number s m p := hx
  rw [hd]
  show Ieee.double.write ((Ieee.Datum.number s m p).integral .zero) = _
  unfold Ieee.Datum.integral
  dsimp only
  rw [cutZ, show p.toNat = 0 by omega, Nat.shiftLeft_zero]
  rfl
theorem ofInt_num (s : Bool) (q : Nat) : floatOfInt .f64 (Ieee.signed s q 0) = if q = 0 then 0 else Ieee.double.nearest s q 0 := by
  show Ieee.double.nearest (decide (Ieee.signed s q 0 < 0)) (Ieee.signed s q 0).natAbs 0 = _
  rw [signed_abs, Nat.pow_zero, Nat.mul_one]
  by_cases hq : q = 0
  · subst hq
    rw [if_pos rfl]
    cases s <;> decide +kernel
  · rw [if_neg hq]
    congr 1
    unfold Ieee.signed
    rw [Nat.shiftLeft_zero]
    cases s
    · rw [if_neg (by decide)]; exact decide_eq_false (by omega)
    · rw [if_pos rfl]; exact decide_eq_true (by omega)
theorem eqD_zero {s : Bool} {q : Nat} (hq : q < 9007199254740992) : eqD (Ieee.double.nearest s q 0) 0 = decide (q = 0) := by
  obtain ⟨m', p', h1, h2, h3, h4⟩ := near_Z s (p := 0) (by decide) hq (by
    by_cases h : q = 0
    · exact .inl h
    · have := (Nat.log2_lt h).2 (show q < 2 ^ 53 by omega)
      exact .inr (by omega))
  have hz : Ieee.double.read 0 = .number false 0 (-1074) := by decide +kernel
  unfold eqD
  rw [order_Z h1 hz h2 (by decide), h4]
  have e0 : Zv false 0 (-1074) = 0 := by decide
  rw [e0]
  have hpos : ∀ k : Nat, (0 : Int) < ((2 ^ k : Nat) : Int) := fun k => Int.natCast_pos.2 (Nat.pow_pos (by decide))
  rw [Zv_base (s := s) (m := q) (p := 0) (base := 0) (by decide) (by decide), show ((0 : Int) - 0).toNat = 0 from rfl]
  have hp := hpos ((0 : Int) + 1074).toNat
  generalize ((2 ^ ((0 : Int) + 1074).toNat : Nat) : Int) = c at hp
  rw [show compare (Ieee.signed s q 0 * c) 0 = compare (Ieee.signed s q 0 * c) (0 * c) by rw [Int.zero_mul], compare_mul hp]
  by_cases h : q = 0
  · subst h
    cases s <;> decide
  · rw [decide_eq_false h]
    have hne : Ieee.signed s q 0 ≠ 0 := by
      intro h0
      have := congrArg Int.natAbs h0
      rw [signed_abs] at this
      simp at this
      exact h this
    cases hc : compare (Ieee.signed s q 0) 0 with
    | eq => exact (hne (Int.compare_eq_eq.1 hc)).elim
    | lt => rfl
    | gt => rfl
theorem frac_le1 {x : Nat} {s : Bool} {m : Nat} {p : Int} (hx : Ieee.double.read x = .number s m p) (hp : p < 0) :
    ∃ w, floatToIntVal .f64 x .i64 = some w ∧ ∃ b n e, fop .sub .f64 x (floatOfInt .f64 w) = Ieee.double.nearest b n e ∧ LE1 n e ∧ (b = s ∨ n = 0) := by
  refine ⟨_, toInt_num hx (by omega), ?_⟩
  obtain ⟨hp0, hm, _⟩ := read_place hx
  generalize hq : m / 2 ^ (-p).toNat = q
  have hqm : q ≤ m := by rw [← hq]; exact Nat.div_le_self _ _
  have hr : ∃ t m' p', Ieee.double.read (floatOfInt .f64 (Ieee.signed s q 0)) = .number t m' p' ∧ -1074 ≤ p' ∧ Zv t m' p' = Zv s q 0 := by
    rw [ofInt_num]
    by_cases h0 : q = 0
    · rw [if_pos h0, h0]
      exact ⟨false, 0, -1074, by decide +kernel, by decide, by cases s <;> (unfold Zv Ieee.signed; simp)⟩
    · rw [if_neg h0]
      obtain ⟨m', p', h1, h2, h3, h4⟩ := near_Z s (m := q) (p := 0) (by decide) (by omega) (by
        have := (Nat.log2_lt h0).2 (show q < 2 ^ 53 by omega)
        exact .inr (by omega))
      exact ⟨s, m', p', h1, h2, h4⟩
  obtain ⟨t, m', p', h1, h2, h3⟩ := hr
  have e : fop .sub .f64 x (floatOfInt .f64 (Ieee.signed s q 0)) = Ieee.double.nearest (if Ieee.signed s m (p - min p p').toNat + Ieee.signed (!t) m' (p' - min p p').toNat = 0 then s && !t else decide (Ieee.signed s m (p - min p p').toNat + Ieee.signed (!t) m' (p' - min p p').toNat < 0)) (Ieee.signed s m (p - min p p').toNat + Ieee.signed (!t) m' (p' - min p p').toNat).natAbs (min p p') := by
    unfold fop floatBits
    show (Ieee.double.sub x _).getD _ = _
    unfold Ieee.Format.sub
    rw [hx, h1]
    rfl
  refine ⟨_, _, _, e, ?_⟩
  generalize hbase : min p p' = base
  generalize hT : Ieee.signed s m (p - base).toNat + Ieee.signed (!t) m' (p' - base).toNat = T
  have hneg : ∀ (b : Bool) (k u : Nat), Ieee.signed (!b) k u = - Ieee.signed b k u := by
    intro b k u
    unfold Ieee.signed
    cases b <;> simp
  have hZ : T * ((2 ^ (base + 1074).toNat : Nat) : Int) = Zv s m p - Zv s q 0 := by
    rw [← h3, Zv_base (show base ≤ p by omega) (by omega), Zv_base (show base ≤ p' by omega) (by omega), ← hT, hneg, Int.add_mul, Int.neg_mul]
    omega
  have hrem : Zv s m p - Zv s q 0 = Ieee.signed s (m % 2 ^ (-p).toNat) (p + 1074).toNat := by
    have hsplit : m = q * 2 ^ (-p).toNat + m % 2 ^ (-p).toNat := by rw [← hq, Nat.mul_comm]; exact (Nat.div_add_mod _ _).symm
    have e1 : q * 2 ^ ((0 : Int) + 1074).toNat = q * 2 ^ (-p).toNat * 2 ^ (p + 1074).toNat := by
      rw [Nat.mul_assoc, ← Nat.pow_add, show (-p).toNat + (p + 1074).toNat = ((0 : Int) + 1074).toNat by omega]
    have e2 : m * 2 ^ (p + 1074).toNat = q * 2 ^ (-p).toNat * 2 ^ (p + 1074).toNat + m % 2 ^ (-p).toNat * 2 ^ (p + 1074).toNat := by
      rw [← Nat.add_mul, ← hsplit]
    unfold Zv Ieee.signed
    rw [Nat.shiftLeft_eq, Nat.shiftLeft_eq, Nat.shiftLeft_eq, e1, e2]
    generalize q * 2 ^ (-p).toNat * 2 ^ (p + 1074).toNat = A
    generalize m % 2 ^ (-p).toNat * 2 ^ (p + 1074).toNat = B
    cases s
    · simp only [Bool.false_eq_true, if_false]; omega
    · simp only [if_true]; omega
  rw [hrem] at hZ
  have hlt : m % 2 ^ (-p).toNat < 2 ^ (-p).toNat := Nat.mod_lt _ (Nat.pow_pos (by decide))
  have habs : T.natAbs * 2 ^ (base + 1074).toNat = m % 2 ^ (-p).toNat * 2 ^ (p + 1074).toNat := by
    have := congrArg Int.natAbs hZ
    rw [Int.natAbs_mul, Int.natAbs_natCast, signed_abs] at this
    exact this
  constructor
  · by_cases hT0 : T.natAbs = 0
    · exact .inl hT0
    right
    refine ⟨by omega, ?_⟩
    have h5 : m % 2 ^ (-p).toNat * 2 ^ (p + 1074).toNat < 2 ^ (-p).toNat * 2 ^ (p + 1074).toNat := Nat.mul_lt_mul_of_pos_right hlt (Nat.pow_pos (by decide))
    rw [← habs, ← Nat.pow_add, show (-p).toNat + (p + 1074).toNat = (-base).toNat + (base + 1074).toNat by omega, Nat.pow_add] at h5
    exact Nat.le_of_lt (Nat.lt_of_mul_lt_mul_right h5)
  · by_cases hT0 : T = 0
    · exact .inr (by rw [hT0]; rfl)
    left
    rw [if_neg hT0]
    have hpos : (0 : Int) < ((2 ^ (base + 1074).toNat : Nat) : Int) := Int.natCast_pos.2 (Nat.pow_pos (by decide))
    cases s
    · have : 0 ≤ T * ((2 ^ (base + 1074).toNat : Nat) : Int) := by
        rw [hZ]
        unfold Ieee.signed
        rw [if_neg (by decide)]
        exact Int.natCast_nonneg _
      have := Int.nonneg_of_mul_nonneg_left this hpos
      exact decide_eq_false (by omega)
    · have : T * ((2 ^ (base + 1074).toNat : Nat) : Int) ≤ 0 := by
        rw [hZ]
        unfold Ieee.signed
        rw [if_pos rfl]
        omega
      have : T ≤ 0 := by
        rcases Int.lt_or_le 0 T with h | h
        · have := Int.mul_pos h hpos
          omega
        · exact h
      exact decide_eq_true (by omega)
end Go.Proofs.Ytdbmbelllghdcaa.Ab

namespace Go.Proofs.Ytdbmbelllghdcaa.Ab
set_option linter.unusedVariables false
set_option linter.unusedSimpArgs false
open Go
def finD (x : Nat) : Bool := FloatKind.f64.format.order (fop .sub .f64 x x) 0 == some .eq
theorem finD_not (x : Nat) : (FloatKind.f64.format.order (fop .sub .f64 x x) 0 != some .eq) = !finD x := rfl
theorem finD_num {x : Nat} (h : finD x = true) : ∃ s m p, Ieee.double.read x = .number s m p := by
  have hq : isN .f64 (fop .sub .f64 x x) = false := by
    cases hn : isN .f64 (fop .sub .f64 x x) with
    | false => rfl
    | true =>
      unfold finD at h
      rw [order_nan (Or.inl hn)] at h
      exact absurd h (by decide)
  cases hd : Ieee.double.read x with
  | number s m p => exact ⟨s, m, p, rfl⟩
  | nan s f =>
    exfalso
    have : fop .sub .f64 x x = qnan .f64 := by
      unfold fop floatBits
      show (Ieee.double.sub x x).getD _ = _
      unfold Ieee.Format.sub
      rw [hd]
      rfl
    rw [this, isN_qnan] at hq
    cases hq
  | infinity s =>
    exfalso
    have : fop .sub .f64 x x = qnan .f64 := by
      unfold fop floatBits
      show (Ieee.double.sub x x).getD _ = _
      unfold Ieee.Format.sub
      rw [hd]
      cases s <;> rfl
    rw [this, isN_qnan] at hq
    cases hq
def smB (x : Nat) : Bool := match Ieee.double.read x with | .number _ _ p => decide (p < 0) | _ => false
theorem smB_num {x : Nat} (h : smB x = true) : ∃ s m p, Ieee.double.read x = .number s m p ∧ p < 0 := by
  unfold smB at h
  cases hd : Ieee.double.read x with
  | number s m p => rw [hd] at h; exact ⟨s, m, p, rfl, of_decide_eq_true h⟩
  | nan s f => rw [hd] at h; cases h
  | infinity s => rw [hd] at h; cases h
theorem beld_small {B : Int} {x : Nat} (h : BelD B x) (hB : B ≤ 52) : smB x = true := by
  obtain ⟨s, m, e, hx, hm⟩ := h
  obtain ⟨h0, h1, h2, _⟩ := read_place hx
  unfold smB
  rw [hx]
  refine decide_eq_true ?_
  rcases Nat.lt_or_ge m 4503599627370496 with h | h
  · have := h2 h
    omega
  · have := hm.resolve_left (by omega)
    have hl : 52 ≤ m.log2 := (Nat.le_log2 (by omega)).2 (show 2 ^ 52 ≤ m by omega)
    omega
theorem cmp52 {s : Bool} {m : Nat} {p : Int} (hp : -1074 ≤ p) (hm : m < 9007199254740992) (hsub : m < 4503599627370496 → p = -1074) (t : Bool) :
    (p < 0 → compare (Zv s m p) (Zv t 4503599627370496 0) = if t then .gt else .lt) ∧ (¬ p < 0 → s = t → compare (Zv s m p) (Zv t 4503599627370496 0) ≠ if t then .gt else .lt) ∧ (¬ p < 0 → s ≠ t → compare (Zv s m p) (Zv t 4503599627370496 0) = if t then .gt else .lt) := by
  refine ⟨fun h => ?_, fun h hs => ?_, fun h hs => ?_⟩
  · have hb : ((m : Nat) : Int) < ((4503599627370496 * 2 ^ (-p).toNat : Nat) : Int) := by
      have h1 : 2 ^ 1 ≤ 2 ^ (-p).toNat := Nat.pow_le_pow_right (by decide) (by omega)
      omega
    rw [Zv_base (show p ≤ p by omega) hp, Zv_base (show p ≤ (0 : Int) by omega) hp, compare_mul (Int.natCast_pos.2 (Nat.pow_pos (by decide))), show (p - p).toNat = 0 by omega, show ((0 : Int) - p).toNat = (-p).toNat by omega]
    unfold Ieee.signed
    rw [Nat.shiftLeft_zero, Nat.shiftLeft_eq]
    generalize (4503599627370496 * 2 ^ (-p).toNat : Nat) = K at hb
    cases t
    · simp only [Bool.false_eq_true, if_false]
      rw [Int.compare_eq_lt]
      cases s <;> simp <;> omega
    · simp only [if_true]
      rw [Int.compare_eq_gt]
      cases s <;> simp <;> omega
  · subst hs
    have hm0 : 4503599627370496 ≤ m := by
      rcases Nat.lt_or_ge m 4503599627370496 with h2 | h2
      · have := hsub h2
        omega
      · exact h2
    have hg : ((4503599627370496 : Nat) : Int) ≤ ((m <<< p.toNat : Nat) : Int) := by
      rw [Nat.shiftLeft_eq]
      have : m * 1 ≤ m * 2 ^ p.toNat := Nat.mul_le_mul_left _ (Nat.pow_pos (by decide))
      omega
    rw [Zv_base (s := s) (m := m) (p := p) (base := 0) (by omega) (by decide), Zv_base (s := s) (m := 4503599627370496) (p := 0) (base := 0) (by decide) (by decide), compare_mul (Int.natCast_pos.2 (Nat.pow_pos (by decide))), show (p - 0).toNat = p.toNat by omega, show ((0 : Int) - 0).toNat = 0 from rfl]
    unfold Ieee.signed
    rw [Nat.shiftLeft_zero]
    generalize (m <<< p.toNat : Nat) = K at hg
    cases s
    · simp only [Bool.false_eq_true, if_false]
      intro hc
      rw [Int.compare_eq_lt] at hc
      omega
    · simp only [if_true]
      intro hc
      rw [Int.compare_eq_gt] at hc
      omega
  · have hm0 : 4503599627370496 ≤ m := by
      rcases Nat.lt_or_ge m 4503599627370496 with h2 | h2
      · have := hsub h2
        omega
      · exact h2
    have hg : (0 : Int) ≤ ((m <<< p.toNat : Nat) : Int) := Int.natCast_nonneg _
    rw [Zv_base (s := s) (m := m) (p := p) (base := 0) (by omega) (by decide), Zv_base (s := t) (m := 4503599627370496) (p := 0) (base := 0) (by decide) (by decide), compare_mul (Int.natCast_pos.2 (Nat.pow_pos (by decide))), show (p - 0).toNat = p.toNat by omega, show ((0 : Int) - 0).toNat = 0 from rfl]
    unfold Ieee.signed
    rw [Nat.shiftLeft_zero]
    generalize (m <<< p.toNat : Nat) = K at hg
    cases t
    · have : s = true := by cases s <;> simp_all
      subst this
      simp only [Bool.false_eq_true, if_false, if_true]
      rw [Int.compare_eq_lt]
      omega
    · have : s = false := by cases s <;> simp_all
      subst this
      simp only [Bool.false_eq_true, if_false, if_true]
      rw [Int.compare_eq_gt]
      omega
theorem r52 (t : Bool) : Ieee.double.read (cond t 14064741636278059008 4841369599423283200) = .number t 4503599627370496 0 := by cases t <;> decide +kernel
def wholeD (x : Nat) : Nat := floatOfInt .f64 ((floatToIntVal .f64 x .i64).getD 0)
def fracD (x : Nat) : Nat := match ltD (fop .sub .f64 x (wholeD x)) 0 with
  | true => fop .add .f64 (fop .sub .f64 x (wholeD x)) 4607182418800017408
  | false => fop .sub .f64 x (wholeD x)
theorem whole_eq {x : Nat} (h : smB x = true) : (match eqD (integD .zero x) 0 with | true => 0 | false => integD .zero x) = wholeD x := by
  obtain ⟨s, m, p, hx, hp⟩ := smB_num h
  have hq : m / 2 ^ (-p).toNat < 9007199254740992 := Nat.lt_of_le_of_lt (Nat.div_le_self _ _) (read_place hx).2.1
  unfold wholeD
  rw [toInt_num hx (by omega), Option.getD_some, ofInt_num, trunc_num hx hp, eqD_zero hq]
  by_cases h0 : m / 2 ^ (-p).toNat = 0
  · rw [decide_eq_true h0, if_pos h0]
  · rw [decide_eq_false h0, if_neg h0]
theorem add_comm64 {x y : Nat} {s t : Bool} {m n : Nat} {i j : Int} (hx : Ieee.double.read x = .number s m i) (hy : Ieee.double.read y = .number t n j) : fop .add .f64 x y = fop .add .f64 y x := by
  unfold fop floatBits
  show (Ieee.double.add x y).getD _ = (Ieee.double.add y x).getD _
  unfold Ieee.Format.add
  rw [hx, hy]
  unfold Ieee.Datum.sum
  dsimp only
  rw [Int.min_comm j i, Int.add_comm (Ieee.signed t n (j - min i j).toNat), Bool.and_comm t s]
def PZ (x : Nat) : Prop := ∃ s m e, Ieee.double.read x = .number s m e ∧ LE1 m e ∧ (s = false ∨ m = 0)
theorem zero64 : Ieee.double.read 0 = .number false 0 (-1074) := by decide +kernel
theorem Zv_zero (s : Bool) (p : Int) : Zv s 0 p = 0 := by unfold Zv Ieee.signed; cases s <;> simp
theorem signed_pos {m : Nat} (k : Nat) (hm : m ≠ 0) : 0 < Ieee.signed false m k := by
  unfold Ieee.signed
  rw [if_neg (by decide), Nat.shiftLeft_eq]
  exact Int.natCast_pos.2 (Nat.mul_pos (by omega) (Nat.pow_pos (by decide)))
theorem signed_neg' (s : Bool) (m k : Nat) : Ieee.signed (!s) m k = - Ieee.signed s m k := by
  unfold Ieee.signed
  cases s <;> simp
theorem lt0 {x : Nat} {s : Bool} {m : Nat} {p : Int} (hx : Ieee.double.read x = .number s m p) : ltD x 0 = (s && decide (m ≠ 0)) := by
  have h0 := (read_place hx).1
  have ho := order_Z hx zero64 h0 (by decide)
  rw [Zv_zero] at ho
  unfold ltD
  rw [ho]
  by_cases hm : m = 0
  · subst hm
    rw [Zv_zero]
    cases s <;> rfl
  · have hp := signed_pos (p + 1074).toNat hm
    cases s
    · have : compare (Zv false m p) 0 = .gt := Int.compare_eq_gt.2 hp
      rw [this]
      rfl
    · have : compare (Zv true m p) 0 = .lt := by
        rw [Int.compare_eq_lt]
        unfold Zv
        rw [show true = !false from rfl, signed_neg']
        omega
      rw [this, decide_eq_true hm]
      rfl
theorem frac_pz {x : Nat} (h : smB x = true) : PZ (fracD x) := by
  obtain ⟨s, m, p, hx, hp⟩ := smB_num h
  obtain ⟨w, h1, b, n, e, h2, h3, _⟩ := frac_le1 hx hp
  have hw : wholeD x = floatOfInt .f64 w := by unfold wholeD; rw [h1]; rfl
  unfold fracD
  rw [hw, h2]
  obtain ⟨r, h4, h5⟩ := near1 b h3
  obtain ⟨m', e', h6, h7, _⟩ := read1 b h5
  rw [← h4] at h6
  rw [lt0 h6]
  cases b with
  | false => exact ⟨false, m', e', h6, h7, .inl rfl⟩
  | true =>
    by_cases hm : m' = 0
    · rw [decide_eq_false (show ¬ m' ≠ 0 from fun h => h hm)]
      exact ⟨true, m', e', h6, h7, .inr hm⟩
    · rw [decide_eq_true hm]
      have hnu := nu_of (s := true) h3 (.inl rfl)
      have hone : Ieee.double.read 4607182418800017408 = .number false 4503599627370496 (-52) := by decide +kernel
      obtain ⟨m2, e2, k1, k2⟩ := hnu.one
      refine ⟨false, m2, e2, ?_, k2, .inl rfl⟩
      rw [← k1]
      exact congrArg _ (add_comm64 h6 hone)
def PQ (k : Nat) (x : Nat) : Prop := ∃ s m p, Ieee.double.read x = .number s m p ∧ (s = false ∨ m = 0) ∧ p ≤ -2 ∧ m ≤ k * 2 ^ (-2 - p).toNat
theorem pz_pq {x : Nat} (h : PZ x) : PQ 4 x := by
  obtain ⟨s, m, p, hx, hl, hs⟩ := h
  obtain ⟨h0, h1, h2, _⟩ := read_place hx
  have hp : p ≤ -2 := by
    rcases Nat.lt_or_ge m 4503599627370496 with h | h
    · have := h2 h
      omega
    · rcases hl with h3 | ⟨h3, h4⟩
      · omega
      · by_cases hp : p ≤ -2
        · exact hp
        · have : 2 ^ (-p).toNat ≤ 2 ^ 1 := Nat.pow_le_pow_right (by decide) (by omega)
          omega
  refine ⟨s, m, p, hx, hs, hp, ?_⟩
  rcases hl with h3 | ⟨h3, h4⟩
  · omega
  · rw [show (-p).toNat = (-2 - p).toNat + 2 by omega, Nat.pow_add] at h4
    omega
theorem ordQ {x c : Nat} {s : Bool} {m cm j : Nat} {p cp : Int} (hx : Ieee.double.read x = .number s m p) (hp : p ≤ -2) (hc : Ieee.double.read c = .number false cm cp) (hz : Zv false cm cp = Zv false j (-2)) :
    FloatKind.f64.format.order x c = some (compare (Ieee.signed s m 0) ((j * 2 ^ (-2 - p).toNat : Nat) : Int)) := by
  have h0 := (read_place hx).1
  rw [order_Z hx hc h0 (read_place hc).1, hz, Zv_base (show p ≤ p by omega) h0, Zv_base (show p ≤ (-2 : Int) by omega) h0, compare_mul (Int.natCast_pos.2 (Nat.pow_pos (by decide))), show (p - p).toNat = 0 by omega]
  congr 2
  unfold Ieee.signed
  rw [if_neg (by decide), Nat.shiftLeft_eq]
theorem q14 : ∃ cm cp, Ieee.double.read 4598175219545276416 = .number false cm cp ∧ Zv false cm cp = Zv false 1 (-2) :=
  ⟨4503599627370496, -54, by decide +kernel, by
    have h := Zv_shift false (m := 1) (p := -2) (q := -54) (by decide) (by decide)
    rw [show 1 * 2 ^ ((-2 : Int) - -54).toNat = 4503599627370496 by decide +kernel] at h
    exact h⟩
theorem q12 : ∃ cm cp, Ieee.double.read 4602678819172646912 = .number false cm cp ∧ Zv false cm cp = Zv false 2 (-2) :=
  ⟨4503599627370496, -53, by decide +kernel, by
    have h := Zv_shift false (m := 2) (p := -2) (q := -53) (by decide) (by decide)
    rw [show 2 * 2 ^ ((-2 : Int) - -53).toNat = 4503599627370496 by decide +kernel] at h
    exact h⟩
theorem cut_exact' (neg : Bool) (m k d : Nat) (hd : d ≤ k) (hm : m ≠ 0) : Ieee.Toward.even.cut neg (m * 2 ^ k) d = m * 2 ^ (k - d) := by
  unfold Ieee.Toward.cut
  simp only [Nat.one_shiftLeft]
  have hlog : k ≤ (m * 2 ^ k).log2 := by
    rw [Nat.le_log2 (Nat.mul_ne_zero hm (Nat.ne_of_gt (Nat.pow_pos (by decide))))]
    exact Nat.le_mul_of_pos_left _ (by omega)
  rw [Nat.min_eq_left (by omega)]
  have e : m * 2 ^ k = m * 2 ^ (k - d) * 2 ^ d := by rw [Nat.mul_assoc, ← Nat.pow_add, Nat.sub_add_cancel hd]
  have hpos : 0 < 2 ^ d := Nat.pow_pos (by decide)
  rw [e, Nat.mul_div_cancel _ hpos, Nat.mul_mod_left]
  have e1 : decide (2 ^ d < 2 * 0) = false := decide_eq_false (by omega)
  have e2 : (2 ^ d == 2 * 0) = false := by simp
  simp [e1, e2]
theorem near_shiftP (s : Bool) {m : Nat} {p q : Int} (hqp : q ≤ p) (hq : -1074 ≤ q) (hb : m < 9007199254740992) : Ieee.double.nearest s (m * 2 ^ (p - q).toNat) q = Ieee.double.nearest s m p := by
  by_cases hm : m = 0
  · subst hm
    rw [Nat.zero_mul]
    unfold Ieee.Format.nearest
    rw [if_pos rfl, if_pos rfl]
  generalize hk : (p - q).toNat = k
  have hne : m * 2 ^ k ≠ 0 := Nat.mul_ne_zero hm (Nat.ne_of_gt (Nat.pow_pos (by decide)))
  have hL : m.log2 < 53 := (Nat.log2_lt hm).2 hb
  have hlog : (m * 2 ^ k).log2 = m.log2 + k := by rw [← Nat.shiftLeft_eq]; exact log_shl hm
  unfold Ieee.Format.nearest
  rw [if_neg hm, if_neg hne, hlog]
  have c4 : Ieee.double.leastPlace = -1074 := by decide
  have c5 : Ieee.double.fractionBits = 52 := by decide
  rw [c4, c5]
  dsimp only
  have e0 : q + ((m.log2 + k : Nat) : Int) - ((52 : Nat) : Int) = p + ((m.log2 : Nat) : Int) - ((52 : Nat) : Int) := by omega
  rw [e0]
  generalize hlast : max (p + ((m.log2 : Nat) : Int) - ((52 : Nat) : Int)) (-1074) = last
  have h1 : last ≤ p := by omega
  have key : Ieee.Toward.even.cut s ((m * 2 ^ k) <<< (q - last).toNat) (last - q).toNat = Ieee.Toward.even.cut s (m <<< (p - last).toNat) (last - p).toNat := by
    rw [show (last - p).toNat = 0 by omega, cut_zero, Nat.shiftLeft_eq, Nat.shiftLeft_eq]
    by_cases hn : last ≤ q
    · rw [show (last - q).toNat = 0 by omega, cut_zero, Nat.mul_assoc, ← Nat.pow_add, show k + (q - last).toNat = (p - last).toNat by omega]
    · rw [show (q - last).toNat = 0 by omega, Nat.pow_zero, Nat.mul_one, cut_exact' s m k _ (by omega) hm, show k - (last - q).toNat = (p - last).toNat by omega]
  rw [key]
theorem sub_form {x c : Nat} {m cm j : Nat} {p cp : Int} {s t : Bool} {y z : Nat} {sm tn : Nat} {i k : Int} (hx : Ieee.double.read y = .number s sm i) (hy : Ieee.double.read z = .number t tn k) :
    ∃ (b : Bool) (base : Int) (T : Int), fop .sub .f64 y z = Ieee.double.nearest b T.natAbs base ∧ base = min i k ∧ T * ((2 ^ (base + 1074).toNat : Nat) : Int) = Zv s sm i - Zv t tn k ∧ b = (if T = 0 then s && !t else decide (T < 0)) := by
  have h1 := (read_place hx).1
  have h2 := (read_place hy).1
  have e : fop .sub .f64 y z = Ieee.double.nearest (if Ieee.signed s sm (i - min i k).toNat + Ieee.signed (!t) tn (k - min i k).toNat = 0 then s && !t else decide (Ieee.signed s sm (i - min i k).toNat + Ieee.signed (!t) tn (k - min i k).toNat < 0)) (Ieee.signed s sm (i - min i k).toNat + Ieee.signed (!t) tn (k - min i k).toNat).natAbs (min i k) := by
    unfold fop floatBits
    show (Ieee.double.sub y z).getD _ = _
    unfold Ieee.Format.sub
    rw [hx, hy]
    rfl
  refine ⟨_, min i k, _, e, rfl, ?_, rfl⟩
  rw [signed_neg', Zv_base (show min i k ≤ i by omega) (by omega), Zv_base (show min i k ≤ k by omega) (by omega), Int.add_mul, Int.neg_mul]
  omega
theorem sub_quarters {x c : Nat} {m cm j k : Nat} {p cp : Int} (hx : Ieee.double.read x = .number false m p) (hp : p ≤ -2) (hc : Ieee.double.read c = .number false cm cp) (hz : Zv false cm cp = Zv false j (-2))
    (h1 : j * 2 ^ (-2 - p).toNat ≤ m) (h2 : m ≤ (k + j) * 2 ^ (-2 - p).toNat) : PQ k (fop .sub .f64 x c) := by
  obtain ⟨h0, hm, _, h9⟩ := read_place hx
  have hc0 := (read_place hc).1
  obtain ⟨b, base, T, e1, e2, e3, e4⟩ := sub_form (x := x) (c := c) (m := m) (cm := cm) (j := j) (p := p) (cp := cp) hx hc
  generalize hQ : 2 ^ (-2 - p).toNat = Q at h1 h2
  have hZ : Zv false m p - Zv false cm cp = ((m - j * Q : Nat) : Int) * ((2 ^ (p + 1074).toNat : Nat) : Int) := by
    rw [hz, Zv_base (show p ≤ p by omega) h0, Zv_base (show p ≤ (-2 : Int) by omega) h0, show (p - p).toNat = 0 by omega]
    unfold Ieee.signed
    rw [if_neg (by decide), if_neg (by decide), Nat.shiftLeft_zero, Nat.shiftLeft_eq, hQ, ← Int.sub_mul]
    congr 1
    omega
  rw [hZ] at e3
  have hpw : ((2 ^ (p + 1074).toNat : Nat) : Int) = ((2 ^ (p - base).toNat : Nat) : Int) * ((2 ^ (base + 1074).toNat : Nat) : Int) := by
    rw [← Int.natCast_mul, ← Nat.pow_add, show (p - base).toNat + (base + 1074).toNat = (p + 1074).toNat by omega]
  have hpos : (0 : Int) < ((2 ^ (base + 1074).toNat : Nat) : Int) := Int.natCast_pos.2 (Nat.pow_pos (by decide))
  have hT : T = ((m - j * Q : Nat) : Int) * ((2 ^ (p - base).toNat : Nat) : Int) := by
    rw [hpw, ← Int.mul_assoc] at e3
    exact Int.eq_of_mul_eq_mul_right (Int.ne_of_gt hpos) e3
  have hT' : T = (((m - j * Q) * 2 ^ (p - base).toNat : Nat) : Int) := by rw [hT, Int.natCast_mul]
  have hb : b = false := by
    rw [e4]
    split
    · rfl
    · exact decide_eq_false (by omega)
  rw [hb, hT', Int.natAbs_natCast, near_shiftP false (show base ≤ p by omega) (by omega) (show m - j * Q < 9007199254740992 by omega)] at e1
  obtain ⟨m', p', k1, k2, k3, k4, _⟩ := near_exact false (m := m - j * Q) (p := p) h0 (by omega) (by
    by_cases h : m - j * Q = 0
    · exact .inl h
    · have := (Nat.log2_lt h).2 (show m - j * Q < 2 ^ 53 by omega)
      exact .inr (by omega))
  rw [← e1] at k1
  refine ⟨false, m', p', k1, .inl rfl, by omega, ?_⟩
  rw [k4, show (-2 - p').toNat = (-2 - p).toNat + (p - p').toNat by omega, Nat.pow_add, hQ, ← Nat.mul_assoc]
  refine Nat.mul_le_mul_right _ ?_
  rw [Nat.add_mul] at h2
  omega
theorem geq_of {x c : Nat} {a b : Int} (h : FloatKind.f64.format.order x c = some (compare a b)) : (gtD x c || eqD x c) = decide (b ≤ a) := by
  unfold gtD eqD
  rw [h]
  rcases Int.lt_trichotomy a b with h1 | h1 | h1
  · rw [Int.compare_eq_lt.2 h1, decide_eq_false (by omega)]; rfl
  · rw [Int.compare_eq_eq.2 h1, decide_eq_true (by omega)]; rfl
  · rw [Int.compare_eq_gt.2 h1, decide_eq_true (by omega)]; rfl
theorem gt_of {x c : Nat} {a b : Int} (h : FloatKind.f64.format.order x c = some (compare a b)) : gtD x c = decide (b < a) := by
  unfold gtD
  rw [h]
  rcases Int.lt_trichotomy a b with h1 | h1 | h1
  · rw [Int.compare_eq_lt.2 h1, decide_eq_false (by omega)]; rfl
  · rw [Int.compare_eq_eq.2 h1, decide_eq_false (by omega)]; rfl
  · rw [Int.compare_eq_gt.2 h1, decide_eq_true (by omega)]; rfl
theorem signed_nn {s : Bool} {m : Nat} (h : s = false ∨ m = 0) : Ieee.signed s m 0 = (m : Int) := by
  unfold Ieee.signed
  rw [Nat.shiftLeft_zero]
  rcases h with rfl | rfl
  · rfl
  · cases s <;> rfl
def geq4 (x : Nat) : Bool := gtD x 4598175219545276416 || eqD x 4598175219545276416
def qF : Nat → Nat → Nat × Int
  | 0, x => (x, 0)
  | n + 1, x => match geq4 x with
    | true => ((qF n (fop .sub .f64 x 4598175219545276416)).1, (qF n (fop .sub .f64 x 4598175219545276416)).2 + 1)
    | false => (x, 0)
theorem pq_step {k x : Nat} (h : PQ (k + 1) x) (hg : geq4 x = true) : PQ k (fop .sub .f64 x 4598175219545276416) := by
  obtain ⟨s, m, p, hx, hs, hp, hm⟩ := h
  obtain ⟨cm, cp, hc, hz⟩ := q14
  have ho := ordQ hx hp hc hz
  unfold geq4 at hg
  rw [geq_of ho, signed_nn hs] at hg
  have hg := of_decide_eq_true hg
  have hpos : 0 < 2 ^ (-2 - p).toNat := Nat.pow_pos (by decide)
  have hs : s = false := hs.resolve_right (by omega)
  subst hs
  exact sub_quarters hx hp hc hz (by omega) hm
theorem pq_zero {x : Nat} (h : PQ 0 x) : geq4 x = false := by
  obtain ⟨s, m, p, hx, hs, hp, hm⟩ := h
  obtain ⟨cm, cp, hc, hz⟩ := q14
  have ho := ordQ hx hp hc hz
  unfold geq4
  rw [geq_of ho, signed_nn hs]
  have hpos : 0 < 2 ^ (-2 - p).toNat := Nat.pow_pos (by decide)
  exact decide_eq_false (by omega)
theorem quarters {R : Type} (L : Nat → Nat → Int → Option R) (Z : Nat → Int → Option R)
    (hs : ∀ M x q, geq4 x = true → 0 ≤ q → q < 100 → L (M + 1) x q = L M (fop .sub .f64 x 4598175219545276416) (q + 1))
    (he : ∀ M x q, geq4 x = false → 0 ≤ q → q < 100 → L (M + 1) x q = Z x q) : ∀ k x, PQ k x → ∀ (q : Int) M, 0 ≤ q → q + k < 100 → L (k + 1 + M) x q = Z (qF k x).1 (q + (qF k x).2) := by
  intro k
  induction k with
  | zero =>
    intro x h q M h0 h1
    rw [show 0 + 1 + M = M + 1 by omega, he M x q (pq_zero h) h0 (by omega)]
    show _ = Z x (q + 0)
    rw [Int.add_zero]
  | succ k ih =>
    intro x h q M h0 h1
    rw [show k + 1 + 1 + M = (k + 1 + M) + 1 by omega]
    cases hg : geq4 x with
    | false =>
      rw [he _ x q hg h0 (by omega)]
      unfold qF
      rw [hg]
      show _ = Z x (q + 0)
      rw [Int.add_zero]
    | true =>
      rw [hs _ x q hg h0 (by omega), ih _ (pq_step h hg) (q + 1) M (by omega) (by omega)]
      conv => rhs; unfold qF
      rw [hg]
      dsimp only
      rw [show q + 1 + (qF k (fop .sub .f64 x 4598175219545276416)).2 = q + ((qF k (fop .sub .f64 x 4598175219545276416)).2 + 1) by omega]
theorem qF_pq : ∀ k x, PQ k x → PQ k (qF k x).1
  | 0, x, h => h
  | k + 1, x, h => by
    unfold qF
    cases hg : geq4 x with
    | false => exact h
    | true =>
      obtain ⟨s, m, p, h1, h2, h3, h4⟩ := qF_pq k _ (pq_step h hg)
      refine ⟨s, m, p, h1, h2, h3, Nat.le_trans h4 (Nat.mul_le_mul_right _ (by omega))⟩
theorem pq_bel {k x : Nat} (h : PQ k x) (hk : k ≤ 4) : BelD 1 x := by
  obtain ⟨s, m, p, hx, hs, hp, hm⟩ := h
  refine ⟨s, m, p, hx, ?_⟩
  by_cases h0 : m = 0
  · exact .inl h0
  right
  have h1 : m ≤ 4 * 2 ^ (-2 - p).toNat := Nat.le_trans hm (Nat.mul_le_mul_right _ hk)
  have h2 : m < 2 ^ ((-2 - p).toNat + 3) := by
    rw [Nat.pow_add]
    have : 0 < 2 ^ (-2 - p).toNat := Nat.pow_pos (by decide)
    omega
  have := (Nat.log2_lt h0).2 h2
  omega
def sS (u p k : Nat) : Nat := fop .sub .f64 4607182418800017408 (fop .quo .f64 (fop .mul .f64 u p) k)
def sP (u : Nat) : Nat := sS u (sS u (sS u (sS u (sS u (sS u (sS u (sS u 4607182418800017408 4643492690795692032) 4641592734702895104) 4639692778610098176) 4637440978796412928) 4634766966517661696) 4631107791820423168) 4626322717216342016) 4618441417868443648
def sZ (f : Nat) : Nat := fop .mul .f64 f 4618760256179416344
def sinW (f : Nat) : Nat := fop .mul .f64 (sZ f) (sP (fop .mul .f64 (sZ f) (sZ f)))
def halfB (x : Nat) : Bool := gtD x 4602678819172646912 || eqD x 4602678819172646912
def foldQ (f : Nat) : Nat := match gtD f 4598175219545276416 with | true => fop .sub .f64 4602678819172646912 f | false => f
def sinD (x : Nat) : Nat := match halfB (fracD x) with
  | true => fneg .f64 (sinW (foldQ (fop .sub .f64 (fracD x) 4602678819172646912)))
  | false => sinW (foldQ (fracD x))
theorem beld_quoL {A L : Int} {x y n : Nat} {j : Int} (hx : BelD A x) (hy : Ieee.double.read y = .number false n j) (hn : n ≠ 0) (hj : L ≤ j + (n.log2 : Int)) (h1 : -1000 ≤ A - L) (h2 : A - L ≤ 1000) : BelD (A - L + 1) (fop .quo .f64 x y) := by
  obtain ⟨s, m, i, hx, hm⟩ := hx
  have e : fop .quo .f64 x y = Ieee.double.nearest (s ^^ false) (2 * ((m <<< (54 + n.log2 - m.log2)) / n) + ((m <<< (54 + n.log2 - m.log2)) % n != 0).toNat) (i - j - ((54 + n.log2 - m.log2 : Nat) : Int) - 1) := by
    unfold fop floatBits
    show (Ieee.double.div x y).getD _ = _
    unfold Ieee.Format.div
    rw [hx, hy]
    unfold Ieee.Datum.quotient
    dsimp only
    rw [if_neg hn]
    rfl
  rw [e]
  refine beld_near ?_ h1 h2
  by_cases m0 : m = 0
  · subst m0
    left
    simp
  have hm := hm.resolve_left m0
  generalize hmore : 54 + n.log2 - m.log2 = more
  have hb : (m <<< more % n != 0).toNat ≤ 1 := by cases (m <<< more % n != 0) <;> decide
  have h3 : m < 2 ^ (m.log2 + 1) := Nat.lt_log2_self
  have h4 : 2 ^ n.log2 ≤ n := Nat.log2_self_le hn
  have h5 : m <<< more / n < 2 ^ (m.log2 + 1 + more - n.log2) := by
    rw [Nat.div_lt_iff_lt_mul (by omega), Nat.shiftLeft_eq]
    have q1 : m * 2 ^ more < 2 ^ (m.log2 + 1) * 2 ^ more := Nat.mul_lt_mul_of_pos_right h3 (Nat.pow_pos (by decide))
    have q2 : 2 ^ (m.log2 + 1 + more - n.log2) * 2 ^ n.log2 ≤ 2 ^ (m.log2 + 1 + more - n.log2) * n := Nat.mul_le_mul_left _ h4
    rw [← Nat.pow_add] at q1 q2
    rw [show m.log2 + 1 + more - n.log2 + n.log2 = m.log2 + 1 + more by omega] at q2
    exact Nat.lt_of_lt_of_le q1 q2
  generalize m <<< more / n = q at *
  generalize (m <<< more % n != 0).toNat = b at *
  by_cases q0 : 2 * q + b = 0
  · exact .inl q0
  right
  have h6 : 2 * q + b < 2 ^ (m.log2 + 1 + more - n.log2 + 1) := by
    rw [Nat.pow_succ]
    omega
  have := (Nat.log2_lt q0).2 h6
  omega
theorem one_bel : BelD 1 4607182418800017408 := ⟨false, 4503599627370496, -52, by decide +kernel, .inr (by decide)⟩
theorem sS_bel {a L : Int} {u p k n : Nat} {j : Int} (hu : BelD 7 u) (hp : BelD a p) (hk : Ieee.double.read k = .number false n j) (hn : n ≠ 0) (hj : L ≤ j + (n.log2 : Int)) (ha : -100 ≤ a) (ha2 : a ≤ 100) (hL : 0 ≤ L) (hL2 : L ≤ 10) (h1 : 1 ≤ a + 9 - L) : BelD (a + 11 - L) (sS u p k) := by
  have h2 := beld_mul hu hp (by omega) (by omega)
  have h3 := beld_quoL (L := L) h2 hk hn hj (by omega) (by omega)
  have h4 := beld_sub (one_bel.mono (show 1 ≤ a + 9 - L by omega)) (h3.mono (show 7 + a + 1 - L + 1 ≤ a + 9 - L by omega)) (by omega) (by omega)
  exact h4.mono (by omega)
theorem sP_bel {u : Nat} (hu : BelD 7 u) : BelD 44 (sP u) := by
  unfold sP
  have s1 := sS_bel (L := 8) (k := 4643492690795692032) (n := 4785074604081152) (j := -44) hu one_bel (by decide +kernel) (by decide) (by decide) (by decide) (by decide) (by decide) (by decide) (by decide)
  have s2 := sS_bel (L := 7) (k := 4641592734702895104) (n := 7388718138654720) (j := -45) hu s1 (by decide +kernel) (by decide) (by decide) (by decide) (by decide) (by decide) (by decide) (by decide)
  have s3 := sS_bel (L := 7) (k := 4639692778610098176) (n := 5488762045857792) (j := -45) hu s2 (by decide +kernel) (by decide) (by decide) (by decide) (by decide) (by decide) (by decide) (by decide)
  have s4 := sS_bel (L := 6) (k := 4637440978796412928) (n := 7740561859543040) (j := -46) hu s3 (by decide +kernel) (by decide) (by decide) (by decide) (by decide) (by decide) (by decide) (by decide)
  have s5 := sS_bel (L := 6) (k := 4634766966517661696) (n := 5066549580791808) (j := -46) hu s4 (by decide +kernel) (by decide) (by decide) (by decide) (by decide) (by decide) (by decide) (by decide)
  have s6 := sS_bel (L := 5) (k := 4631107791820423168) (n := 5910974510923776) (j := -47) hu s5 (by decide +kernel) (by decide) (by decide) (by decide) (by decide) (by decide) (by decide) (by decide)
  have s7 := sS_bel (L := 4) (k := 4626322717216342016) (n := 5629499534213120) (j := -48) hu s6 (by decide +kernel) (by decide) (by decide) (by decide) (by decide) (by decide) (by decide) (by decide)
  have s8 := sS_bel (L := 2) (k := 4618441417868443648) (n := 6755399441055744) (j := -50) hu s7 (by decide +kernel) (by decide) (by decide) (by decide) (by decide) (by decide) (by decide) (by decide)
  exact s8.mono (by decide)
theorem sinW_bel {f : Nat} (h : BelD (-1) f) : BelD 48 (sinW f) := by
  have h2pi : BelD 3 4618760256179416344 := ⟨false, 7074237752028440, -50, by decide +kernel, .inr (by decide)⟩
  have hz : BelD 3 (sZ f) := beld_mul h h2pi (by decide) (by decide)
  have hu : BelD 7 (fop .mul .f64 (sZ f) (sZ f)) := beld_mul hz hz (by decide) (by decide)
  exact beld_mul hz (sP_bel hu) (by decide) (by decide)
theorem foldQ_bel {f : Nat} (h : PQ 2 f) : BelD (-1) (foldQ f) := by
  obtain ⟨s, m, p, hx, hs, hp, hm⟩ := h
  obtain ⟨cm, cp, hc, hz⟩ := q14
  have ho := ordQ hx hp hc hz
  unfold foldQ
  rw [gt_of ho, signed_nn hs]
  by_cases hg : ((1 * 2 ^ (-2 - p).toNat : Nat) : Int) < (m : Int)
  · rw [decide_eq_true hg]
    have hpos : 0 < 2 ^ (-2 - p).toNat := Nat.pow_pos (by decide)
    have hs : s = false := hs.resolve_right (by omega)
    subst hs
    obtain ⟨dm, dp, hd, hdz⟩ := q12
    obtain ⟨h0, _⟩ := read_place hx
    obtain ⟨hd0, _⟩ := read_place hd
    obtain ⟨b, base, T, e1, e2, e3, e4⟩ := sub_form (x := f) (c := f) (m := m) (cm := cm) (j := 0) (p := p) (cp := cp) hd hx
    rw [e1]
    show BelD (-2 + 1) _
    refine beld_near ?_ (by decide) (by decide)
    by_cases hT : T.natAbs = 0
    · exact .inl hT
    right
    generalize hQ : 2 ^ (-2 - p).toNat = Q at *
    have hZ : Zv false dm dp - Zv false m p = ((2 * Q - m : Nat) : Int) * ((2 ^ (p + 1074).toNat : Nat) : Int) := by
      rw [hdz, Zv_base (show p ≤ p by omega) h0, Zv_base (show p ≤ (-2 : Int) by omega) h0, show (p - p).toNat = 0 by omega]
      unfold Ieee.signed
      rw [if_neg (by decide), if_neg (by decide), Nat.shiftLeft_zero, Nat.shiftLeft_eq, hQ, ← Int.sub_mul]
      congr 1
      omega
    rw [hZ] at e3
    have habs : T.natAbs * 2 ^ (base + 1074).toNat = (2 * Q - m) * 2 ^ (p + 1074).toNat := by
      have := congrArg Int.natAbs e3
      rw [Int.natAbs_mul, Int.natAbs_natCast, Int.natAbs_mul, Int.natAbs_natCast, Int.natAbs_natCast] at this
      exact this
    have hlt : (2 * Q - m) * 2 ^ (p + 1074).toNat < Q * 2 ^ (p + 1074).toNat := Nat.mul_lt_mul_of_pos_right (by omega) (Nat.pow_pos (by decide))
    have hb : base ≤ -2 := by omega
    rw [← habs, ← hQ, ← Nat.pow_add, show (-2 - p).toNat + (p + 1074).toNat = (-2 - base).toNat + (base + 1074).toNat by omega, Nat.pow_add] at hlt
    have h6 := Nat.lt_of_mul_lt_mul_right hlt
    have := (Nat.log2_lt hT).2 h6
    omega
  · rw [decide_eq_false hg]
    refine ⟨s, m, p, hx, ?_⟩
    by_cases h0 : m = 0
    · exact .inl h0
    right
    have h1 : m < 2 ^ ((-2 - p).toNat + 1) := by
      rw [Nat.pow_add]
      have : 0 < 2 ^ (-2 - p).toNat := Nat.pow_pos (by decide)
      omega
    have := (Nat.log2_lt h0).2 h1
    omega
theorem sinD_bel {x : Nat} (h : smB x = true) : BelD 48 (sinD x) := by
  have hq := pz_pq (frac_pz h)
  unfold sinD
  obtain ⟨s, m, p, hx, hs, hp, hm⟩ := hq
  obtain ⟨cm, cp, hc, hz⟩ := q12
  have ho := ordQ hx hp hc hz
  unfold halfB
  rw [geq_of ho, signed_nn hs]
  by_cases hg : ((2 * 2 ^ (-2 - p).toNat : Nat) : Int) ≤ (m : Int)
  · rw [decide_eq_true hg]
    have hpos : 0 < 2 ^ (-2 - p).toNat := Nat.pow_pos (by decide)
    have hs : s = false := hs.resolve_right (by omega)
    subst hs
    exact beld_neg (sinW_bel (foldQ_bel (sub_quarters (k := 2) hx hp hc hz (by omega) hm)))
  · rw [decide_eq_false hg]
    exact sinW_bel (foldQ_bel ⟨s, m, p, hx, hs, hp, by omega⟩)
def phF (x : Nat) : Nat := (qF 4 (fracD x)).1
def phQ (x : Nat) : Int := (qF 4 (fracD x)).2
def phC (x : Nat) : Nat := sinD (fop .sub .f64 4598175219545276416 (phF x))
def phS (x : Nat) : Nat := sinD (phF x)
def phX (x : Nat) : Nat := match phQ x == 1 with
  | true => fop .sub .f64 0 (phS x)
  | false => match phQ x == 2 with
    | true => fop .sub .f64 0 (phC x)
    | false => match phQ x == 3 with | true => phS x | false => phC x
def phY (x : Nat) : Nat := match phQ x == 1 with
  | true => phC x
  | false => match phQ x == 2 with
    | true => fop .sub .f64 0 (phS x)
    | false => match phQ x == 3 with | true => fop .sub .f64 0 (phC x) | false => phS x
def nr (y : Nat) : Nat := (fconv .f64 y .f32).getD 0
theorem phF_sm {x : Nat} (h : smB x = true) : smB (phF x) = true ∧ smB (fop .sub .f64 4598175219545276416 (phF x)) = true := by
  have h1 : BelD 1 (phF x) := pq_bel (qF_pq 4 _ (pz_pq (frac_pz h))) (by decide)
  have hq : BelD 1 4598175219545276416 := ⟨false, 4503599627370496, -54, by decide +kernel, .inr (by decide)⟩
  exact ⟨beld_small h1 (by decide), beld_small (beld_sub hq h1 (by decide) (by decide)) (by decide)⟩
theorem ph_bel {x : Nat} (h : smB x = true) : BelD 48 (phC x) ∧ BelD 48 (phS x) ∧ BelD 50 (fop .sub .f64 0 (phC x)) ∧ BelD 50 (fop .sub .f64 0 (phS x)) := by
  obtain ⟨h1, h2⟩ := phF_sm h
  have c := sinD_bel h2
  have s := sinD_bel h1
  have z : BelD 48 0 := ⟨false, 0, -1074, zero64, .inl rfl⟩
  exact ⟨c, s, beld_sub z c (by decide) (by decide), beld_sub z s (by decide) (by decide)⟩
theorem nr_of {y : Nat} (h : BelD 50 y) : fconv .f64 y .f32 = some (nr y) := by
  obtain ⟨r, hr⟩ := beld_conv (h.mono (by decide))
  unfold nr
  rw [hr]
  rfl
end Go.Proofs.Ytdbmbelllghdcaa.Ab

namespace Go.Proofs.Ytdbmbelllghdcaa.Ab
set_option linter.unusedVariables false
set_option linter.unusedSimpArgs false
open Go
def tab_IsFinite : Fns := tabT []
theorem tabok_IsFinite : ∀ f, FnT Try.prog f (tab_IsFinite f) := tabT_nil
theorem run_IsFinite (N : Nat) (x : Nat) : run ty tab_IsFinite ann0 N Try.f23 [.fl .f32 x] []
    = some (.bool (eqB (fop .sub .f32 x x) 0), []) := by
  kernel_rfl
theorem ok_IsFinite : FnT Try.prog 23 (gT (gF1 finB)) := by
  refine fnT tabok_IsFinite Try.func23 rfl rfl ann0 fun vs h v h' e => ⟨0, ?_⟩
  rw [T.run_of] at e
  unfold gF1 at e
  split at e
  case h_2 => cases e
  rename_i x
  cases e
  refine Eq.trans (run_IsFinite 0 x) ?_
  rfl
def inB (n lo hi : Int) : Bool := decide (n ≥ lo) && decide (n ≤ hi)
def gIn : G := fun vs h => match vs, h with | [.int .i64 n, .int .i64 a, .int .i64 b], [] => some (.bool (inB n a b), []) | _, _ => none
def tab_within : Fns := tabT []
theorem tabok_within : ∀ f, FnT Try.prog f (tab_within f) := tabT_nil
theorem run_within (N : Nat) (n : Int) (a : Int) (b : Int) : run ty tab_within ann0 N Try.f20 [.int .i64 n, .int .i64 a, .int .i64 b] []
    = (match decide ((n : Int) ≥ a) with | true => some (.bool (decide ((n : Int) ≤ b)), []) | false => some (.bool false, [])) := by
  kernel_rfl
theorem ok_within : FnT Try.prog 20 (gT gIn) := by
  refine fnT tabok_within Try.func20 rfl rfl ann0 fun vs h v h' e => ⟨0, ?_⟩
  rw [T.run_of] at e
  unfold gIn at e
  split at e
  case h_2 => cases e
  rename_i n a b
  cases e
  refine Eq.trans (run_within 0 n a b) ?_
  unfold inB
  cases decide (n ≥ a) <;> rfl
def gIxT (f : FuncId) (p : Nat → Bool) : GT := fun vs h => match vs, h with
  | [.sl 0 0 n, .fn f'], [.at rw (.fl .f32 l)] => if f' = f then .ite (decide (l.length = n ∧ n < 2147483648)) (.ret (.int .i64 (ixOf p l)) [.at rw (.fl .f32 l)]) .no else .no
  | [.nil, .fn f'], [] => if f' = f then .ret (.int .i64 (-1)) [] else .no
  | _, _ => .no
def gCoT (f : FuncId) (p : Nat → Bool) : GT := fun vs h => match vs, h with
  | [.sl 0 0 n, .fn f'], [.at rw (.fl .f32 l)] => if f' = f then .ite (decide (l.length = n ∧ n < 2147483648)) (.ret (.bool (decide (ixOf p l ≥ 0))) [.at rw (.fl .f32 l)]) .no else .no
  | [.nil, .fn f'], [] => if f' = f then .ret (.bool false) [] else .no
  | _, _ => .no
def gAllT (p : Nat → Bool) : GT := fun vs h => match vs, h with
  | [.sl 0 0 n], [.at rw (.fl .f32 l)] => .ite (decide (l.length = n ∧ n < 2147483648)) (.ret (.bool (l.all p)) [.at rw (.fl .f32 l)]) .no
  | [.nil], [] => .ret (.bool true) []
  | _, _ => .no
def tab_fin1 : Fns := tabT [(23, gT (gF1 finB))]
theorem tabok_fin1 : ∀ f, FnT Try.prog f (tab_fin1 f) := (tabT_cons (k := 23) ok_IsFinite tabT_nil)
theorem run_fin1 (N : Nat) (x : Nat) : run ty tab_fin1 ann0 N Try.f35 [.fl .f32 x] []
    = some (.bool (!(finB x)), []) := by
  kernel_rfl
theorem ok_fin1 : FnT Try.prog 35 (gT (gF1 (fun x => !finB x))) := by
  refine fnT tabok_fin1 Try.func35 rfl rfl ann0 fun vs h v h' e => ⟨0, ?_⟩
  rw [T.run_of] at e
  unfold gF1 at e
  split at e
  case h_2 => cases e
  rename_i x
  cases e
  refine Eq.trans (run_fin1 0 x) ?_
  show _ = some (V.bool (!finB x), [])
  rfl
def an_ixfin : Ann := ⟨fun r => if r = 2 then some ([0, 1, 7, 8], [4]) else none, fun _ _ => .quiet⟩
def tab_ixfin : Fns := tabT [(35, gT (gF1 (fun x => !finB x)))]
theorem tabok_ixfin : ∀ f, FnT Try.prog f (tab_ixfin f) := (tabT_cons (k := 35) ok_fin1 tabT_nil)
def st_ixfin2 (s0n : Nat) (t7 : Int) (t8 : Int) (rw0 : Bool) (l0 : List Nat) : St := ⟨(.sl 0 0 s0n :: .fn 35 :: .any :: .any :: .any :: .any :: .any :: .int .i64 t7 :: .int .i64 t8 :: (anys 10 [])), [.at rw0 (.fl .f32 l0)]⟩
abbrev kp_ixfin2 : Option (List Nat × List Nat) := some ([0, 1, 7, 8], [4])
noncomputable def lp_ixfin2 {R : Type} (N M : Nat) (s : St) (K : X → St → Option R) : Option R := loopH 1 kp_ixfin2 (fun st K => exec ty tab_ixfin an_ixfin N 1 (atOf [true, false, true, false, false] Try.f43) st K) M s K
noncomputable def kt_ixfin2 {R : Type} (N : Nat) (K : X → St → Option R) : X → St → Option R := kBlkR 0 (kSeqR tab_ixfin an_ixfin N 1 (atOf [true, true] Try.f43) (K))
def en_ixfin2_0 (t4 : Int) (rw0 : Bool) (l0 : List Nat) : St := ⟨(.any :: .any :: .any :: .any :: .int .i64 t4 :: (anys 14 [])), [.at rw0 (.fl .f32 l0)]⟩
def en_ixfin2_1 (rw0 : Bool) (l0 : List Nat) : St := ⟨(anys 19 []), [.at rw0 (.fl .f32 l0)]⟩
theorem run_ixfin (N : Nat) (n : Nat) (rw : Bool) (l : List Nat) : run ty tab_ixfin an_ixfin N Try.f43 [.sl 0 0 n, .fn 35] [.at rw (.fl .f32 l)]
    = lp_ixfin2 N N (st_ixfin2 n ((n : Nat) : Int) 0 rw l) (kt_ixfin2 N (kEnd Try.f43 1)) := by
  kernel_rfl
theorem step_ixfin2 {R : Type} (N M : Nat) (K : X → St → Option R) (s0n : Nat) (t7 : Int) (t8 : Int) (rw0 : Bool) (l0 : List Nat) : lp_ixfin2 N (M + 1) (st_ixfin2 s0n t7 t8 rw0 l0) K
    = (match decide ((t8 : Int) < t7) with | true => (match decide (0 ≤ (t8 : Int) ∧ (t8 : Int) < ((s0n : Nat) : Int)) with | true => (match l0[0 + (t8).toNat * 1]? with | some e1 => (match !finB e1 with | true => K .ret (en_ixfin2_0 t8 rw0 l0) | false => lp_ixfin2 N M (st_ixfin2 s0n t7 (IntKind.i64.wrap (t8 + 1)) rw0 l0) K) | none => none) | false => none) | false => K (.exit 0) (en_ixfin2_1 rw0 l0)) := by
  kernel_rfl
theorem end_ixfin2_0 (N : Nat) (t4 : Int) (rw0 : Bool) (l0 : List Nat) : kt_ixfin2 N (kEnd Try.f43 1) .ret (en_ixfin2_0 t4 rw0 l0)
    = some (.int .i64 t4, [.at rw0 (.fl .f32 l0)]) := by
  kernel_rfl
theorem end_ixfin2_1 (N : Nat) (rw0 : Bool) (l0 : List Nat) : kt_ixfin2 N (kEnd Try.f43 1) (.exit 0) (en_ixfin2_1 rw0 l0)
    = some (.int .i64 (-1), [.at rw0 (.fl .f32 l0)]) := by
  kernel_rfl
theorem ok_ixfin : FnT Try.prog 43 (gIxT 35 (fun x => !finB x)) := by
  refine fnT tabok_ixfin Try.func43 rfl rfl an_ixfin fun vs h v h' e => ?_
  unfold gIxT at e
  split at e
  · rename_i n f' rw l
    split at e
    · rename_i hf
      subst hf
      obtain ⟨hd, e⟩ := T.pre_inv e
      obtain ⟨rfl, rfl⟩ := T.ret_inv e
      obtain ⟨rfl, hb⟩ := of_decide_eq_true hd
      refine ⟨l.length + 1, Eq.trans (run_ixfin _ _ _ _) ?_⟩
      refine Eq.trans (scan0 l (fun x => !finB x) (fun M i => lp_ixfin2 (l.length + 1) M (st_ixfin2 l.length ((l.length : Nat) : Int) i rw l) (kt_ixfin2 (l.length + 1) (kEnd Try.f43 1))) (fun j => some (.int .i64 (j : Int), [.at rw (.fl .f32 l)])) (some (.int .i64 (-1), [.at rw (.fl .f32 l)])) (fun M i x hx => ?_) (fun M => ?_)) ?_
      · have hi := lt_of_get hx
        simp only [step_ixfin2, dlt hi, din hi, ix, hx, wr (show i < 2147483648 by omega), end_ixfin2_0] <;> (cases !finB x <;> rfl)
      · simp only [step_ixfin2, dge (Nat.le_refl _), end_ixfin2_1]
      · unfold ixOf
        cases firstIx (fun x => !finB x) l 0 <;> rfl
    · exact (T.no_inv e).elim
  · split at e
    · rename_i hf
      subst hf
      obtain ⟨rfl, rfl⟩ := T.ret_inv e
      exact ⟨1, by kernel_rfl⟩
    · exact (T.no_inv e).elim
  · exact (T.no_inv e).elim
def tab_cofin : Fns := tabT [(43, gIxT 35 (fun x => !finB x))]
theorem tabok_cofin : ∀ f, FnT Try.prog f (tab_cofin f) := (tabT_cons (k := 43) ok_ixfin tabT_nil)
theorem run_cofin (N : Nat) (n : Nat) (rw : Bool) (l : List Nat) : run ty tab_cofin ann0 N Try.f34 [.sl 0 0 n, .fn 35] [.at rw (.fl .f32 l)]
    = (match decide (l.length = n ∧ n < 2147483648) with | true => some (.bool (decide ((ixOf (fun x => !finB x) l : Int) ≥ 0)), [.at rw (.fl .f32 l)]) | false => none) := by
  kernel_rfl
theorem ok_cofin : FnT Try.prog 34 (gCoT 35 (fun x => !finB x)) := by
  refine fnT tabok_cofin Try.func34 rfl rfl ann0 fun vs h v h' e => ⟨0, ?_⟩
  unfold gCoT at e
  split at e
  · split at e
    · rename_i n f' rw l hf
      subst hf
      obtain ⟨hd, e⟩ := T.pre_inv e
      obtain ⟨rfl, rfl⟩ := T.ret_inv e
      refine Eq.trans (run_cofin 0 _ _ _) ?_
      rw [hd]
    · exact (T.no_inv e).elim
  · split at e
    · rename_i hf
      subst hf
      obtain ⟨rfl, rfl⟩ := T.ret_inv e
      kernel_rfl
    · exact (T.no_inv e).elim
  · exact (T.no_inv e).elim
def tab_areFinite : Fns := tabT [(34, gCoT 35 (fun x => !finB x))]
theorem tabok_areFinite : ∀ f, FnT Try.prog f (tab_areFinite f) := (tabT_cons (k := 34) ok_cofin tabT_nil)
theorem run_areFinite (N : Nat) (n : Nat) (rw : Bool) (l : List Nat) : run ty tab_areFinite ann0 N Try.f19 [.sl 0 0 n] [.at rw (.fl .f32 l)]
    = (match decide (l.length = n ∧ n < 2147483648) with | true => some (.bool (!(decide (ixOf (fun x => !finB x) l ≥ 0))), [.at rw (.fl .f32 l)]) | false => none) := by
  kernel_rfl
theorem ok_areFinite : FnT Try.prog 19 (gAllT finB) := by
  refine fnT tabok_areFinite Try.func19 rfl rfl ann0 fun vs h v h' e => ⟨0, ?_⟩
  unfold gAllT at e
  split at e
  · obtain ⟨hd, e⟩ := T.pre_inv e
    obtain ⟨rfl, rfl⟩ := T.ret_inv e
    refine Eq.trans (run_areFinite 0 _ _ _) ?_
    rw [hd, ← ix_all finB]
  · obtain ⟨rfl, rfl⟩ := T.ret_inv e
    kernel_rfl
  · exact (T.no_inv e).elim
def gLsT : GT := fun vs h => match vs, h with
  | [.sl 0 0 n], [.at rw (.fl .f32 l)] => .ite (decide (l.length = n ∧ n < 2147483648)) (.ite (l.all finB) (.ret (.tup [.a (.sl 0 0 n), .a (.bool true)]) [.at rw (.fl .f32 l)]) (.ret nilF [.at rw (.fl .f32 l)])) .no
  | _, _ => .no
def tab_checkedNumbers : Fns := tabT [(19, gAllT finB)]
theorem tabok_checkedNumbers : ∀ f, FnT Try.prog f (tab_checkedNumbers f) := (tabT_cons (k := 19) ok_areFinite tabT_nil)
theorem run_checkedNumbers (N : Nat) (n : Nat) (rw : Bool) (l : List Nat) : run ty tab_checkedNumbers ann0 N Try.f17 [.sl 0 0 n] [.at rw (.fl .f32 l)]
    = (match decide (l.length = n ∧ n < 2147483648) with | true => (match !(l.all finB) with | true => some (.tup [.a (.nil), .a (.bool false)], [.at rw (.fl .f32 l)]) | false => some (.tup [.a (.sl 0 0 n), .a (.bool true)], [.at rw (.fl .f32 l)])) | false => none) := by
  kernel_rfl
theorem ok_checkedNumbers : FnT Try.prog 17 gLsT := by
  refine fnT tabok_checkedNumbers Try.func17 rfl rfl ann0 fun vs h v h' e => ⟨0, ?_⟩
  unfold gLsT at e
  split at e
  · rename_i n rw l
    obtain ⟨hd, e⟩ := T.pre_inv e
    refine Eq.trans (run_checkedNumbers 0 _ _ _) (Eq.trans ?_ e)
    rw [hd]
    show _ = T.k _ _
    simp only [T.k]
    cases l.all finB <;> rfl
  · exact (T.no_inv e).elim
end Go.Proofs.Ytdbmbelllghdcaa.Ab

namespace Go.Proofs.Ytdbmbelllghdcaa.Ab
set_option linter.unusedVariables false
set_option linter.unusedSimpArgs false
open Go
theorem ok_msqrt : FnT Try.prog 44 gSqrt := sqrt_ok Try.func44 (by decide) (by rfl) (by rfl) (by rfl)
def tab_mSqrt : Fns := tabT [(44, gSqrt)]
theorem tabok_mSqrt : ∀ f, FnT Try.prog f (tab_mSqrt f) := (tabT_cons (k := 44) ok_msqrt tabT_nil)
theorem run_mSqrt (N : Nat) (x : Nat) : run ty tab_mSqrt ann0 N Try.f37 [.fl .f64 x] []
    = some (.fl .f64 (fsqrt x), []) := by
  kernel_rfl
theorem ok_mSqrt : FnT Try.prog 37 (gSqrt) := by
  refine fnT tabok_mSqrt Try.func37 rfl rfl ann0 fun vs h v h' e => ⟨0, ?_⟩
  unfold gSqrt at e
  split at e
  case h_2 => exact (T.no_inv e).elim
  obtain ⟨rfl, rfl⟩ := T.ret_inv e
  exact run_mSqrt 0 _
def gRoot : G := fun vs h => match vs, h with | [.fl .f32 x], [] => some (.fl .f32 (rootF x), []) | _, _ => none
def tab_RootNumber : Fns := tabT [(37, gSqrt)]
theorem tabok_RootNumber : ∀ f, FnT Try.prog f (tab_RootNumber f) := (tabT_cons (k := 37) ok_mSqrt tabT_nil)
theorem run_RootNumber (N : Nat) (x : Nat) : run ty tab_RootNumber ann0 N Try.f24 [.fl .f32 x] []
    = (match fconv .f32 x .f64 with | some c1 => (match fconv .f64 (fsqrt c1) .f32 with | some c2 => some (.fl .f32 c2, []) | none => none) | none => none) := by
  kernel_rfl
theorem ok_RootNumber : FnT Try.prog 24 (gT gRoot) := by
  refine fnT tabok_RootNumber Try.func24 rfl rfl ann0 fun vs h v h' e => ⟨0, ?_⟩
  rw [T.run_of] at e
  unfold gRoot at e
  split at e
  case h_2 => cases e
  rename_i x
  cases e
  refine Eq.trans (run_RootNumber 0 x) ?_
  simp only [fconv_eq, rootF_eq, Option.isSome_some, Option.getD_some]
theorem T.run_ite (b : Bool) (x y : T) : (T.ite b x y).run = match b with | true => x.run | false => y.run := rfl
theorem T.run_ret (v : V) (h : H) : (T.ret v h).run = some (v, h) := rfl
theorem FnT.runs {f : FuncId} {fn : Func} {code : Code} {fns : Fns} (hfn : ∀ f, FnT Try.prog f (fns f)) (hf : Try.prog.funcs[f]? = some fn) (hb : fn.body = some code) (hn : (fn.name == "runtime.NumGoroutine") = false) (an : Ann) (N : Nat) :
    FnT Try.prog f (fun vs h => T.of (run ty fns an N fn vs h)) :=
  fnT hfn hf hb hn an fun vs h v h' e => ⟨N, by rw [T.run_of] at e; exact e⟩
theorem getD_some' {l : List Nat} {i : Nat} (h : i < l.length) : l[i]? = some (l.getD i 0) := by simp [List.getD_eq_getElem?_getD, h]
theorem first_any {α : Type} (t : α → Bool) : ∀ (l : List α) (i : Nat), (firstIx t l i).isSome = l.any t
  | [], i => rfl
  | x :: l, i => by
    unfold firstIx
    rw [List.any_cons]
    cases t x with
    | true => rfl
    | false => exact first_any t l (i + 1)
theorem any_not {α : Type} (q : α → Bool) (l : List α) : (l.any fun x => !q x) = !(l.all q) := by
  induction l with
  | nil => rfl
  | cons x l ih => simp only [List.any_cons, List.all_cons, ih]; cases q x <;> rfl
theorem scanR {R : Type} (n : Nat) (t : Nat → Bool) (L : Nat → Int → Option R) (A Z : Option R)
    (hs : ∀ (M i : Nat), i < n → L (M + 1) i = match t i with | true => A | false => L M ((i + 1 : Nat) : Int))
    (he : ∀ M, L (M + 1) (n : Nat) = Z) : L (n + 1) 0 = match (List.range n).any t with | true => A | false => Z := by
  have h := scan0 (List.range n) t L (fun _ => A) Z (fun M i x hx => by
    have hi : i < n := by have := lt_of_get hx; simpa using this
    rw [List.getElem?_range hi] at hx
    cases hx
    exact hs M i hi) (fun M => by rw [List.length_range]; exact he M)
  rw [List.length_range] at h
  rw [h, ← first_any t (List.range n) 0]
  cases firstIx t (List.range n) 0 <;> rfl
theorem app_scan {α β R : Type} (l : List α) (q : α → Bool) (g : α → β) (L : Nat → Nat → List β → Option R) (A : Option R) (Z : List β → Option R)
    (hs : ∀ (M i : Nat) (out : List β) (x : α), l[i]? = some x → out.length = i → L (M + 1) i out = match q x with | true => L M (i + 1) (out ++ [g x]) | false => A)
    (he : ∀ M out, out.length = l.length → L (M + 1) l.length out = Z out) :
    ∀ suf pre, l = pre ++ suf → ∀ M, L (suf.length + 1 + M) pre.length (pre.map g) = match suf.all q with | true => Z (l.map g) | false => A := by
  intro suf
  induction suf with
  | nil =>
    intro pre hl M
    have hp : pre = l := by rw [hl]; simp
    rw [show ([] : List α).length + 1 + M = M + 1 by simp; omega]
    subst hp
    exact he M _ (by simp)
  | cons x suf ih =>
    intro pre hl M
    rw [show (x :: suf).length + 1 + M = (suf.length + 1 + M) + 1 by simp; omega, hs _ _ _ x (by rw [hl]; simp) (by simp), List.all_cons]
    cases q x with
    | false => rfl
    | true =>
      rw [Bool.true_and]
      have := ih (pre ++ [x]) (by rw [hl]; simp) M
      rw [List.map_append, List.map_singleton, List.length_append, List.length_singleton] at this
      exact this
def narOk (x : Nat) : Bool := (fconv .f64 x .f32).isSome
def nar (x : Nat) : Nat := (fconv .f64 x .f32).getD 0
def cfB (z : Nat × Nat) : Bool := finB z.1 && finB z.2
def ascB (l : List Nat) : Bool := (List.range (l.length - 1)).all fun i => gtB (l.getD (i + 1) 0) (l.getD i 0)
def vsB (l0 l1 : List Nat) : Bool := decide (l0.length < 12) && (decide (l1.length = l0.length + 1) && (l0.all finB && (l1.all finB && ascB l0)))
def wvQ (e h : Nat) : Bool := gtB e h || ltB e h
def wvV (e h : Nat) : Nat × Nat := match gtB e h with | true => (rootF (fop .sub .f32 e h), 0) | false => (0, rootF (fop .sub .f32 h e))
def wvL (e : Nat) (l : List Nat) : List (Nat × Nat) := l.map (wvV e)
def wnOk (l0 l1 : List Nat) (e : Nat) : Bool := vsB l0 l1 && (finB e && (l1.all (wvQ e) && (wvL e l1).all cfB))
def gAsc : GT := fun vs h => match vs, h with
  | [.sl 0 0 n], [.at rw (.fl .f32 l)] => .ite (decide (l.length = n ∧ n < 2147483648)) (.ret (.bool (ascB l)) [.at rw (.fl .f32 l)]) .no
  | _, _ => .no
def gVs : GT := fun vs h => match vs, h with
  | [.g [.sl 0 0 n, .sl 1 0 m]], [.at r0 (.fl .f32 l0), .at r1 (.fl .f32 l1)] => .ite (decide (l0.length = n ∧ n < 2147483648 ∧ l1.length = m ∧ m < 2147483648)) (.ret (.bool (vsB l0 l1)) [.at r0 (.fl .f32 l0), .at r1 (.fl .f32 l1)]) .no
  | _, _ => .no
def an_ascI : Ann := ⟨fun r => if r = 2 then some ([0, 3], [2]) else none, fun _ _ => .quiet⟩
def tab_ascI : Fns := tabT []
theorem tabok_ascI : ∀ f, FnT Try.prog f (tab_ascI f) := tabT_nil
def st_ascI2 (list0n : Nat) (i3 : Int) (rw0 : Bool) (l0 : List Nat) : St := ⟨(.sl 0 0 list0n :: .any :: .any :: .int .i64 i3 :: (anys 17 [])), [.at rw0 (.fl .f32 l0)]⟩
abbrev kp_ascI2 : Option (List Nat × List Nat) := some ([0, 3], [2])
noncomputable def lp_ascI2 {R : Type} (N M : Nat) (s : St) (K : X → St → Option R) : Option R := loopH 1 kp_ascI2 (fun st K => exec ty tab_ascI an_ascI N 1 (atOf [true, false, true, false, false] Try.f33) st K) M s K
noncomputable def kt_ascI2 {R : Type} (N : Nat) (K : X → St → Option R) : X → St → Option R := kBlkR 0 (kSeqR tab_ascI an_ascI N 1 (atOf [true, true] Try.f33) (K))
def en_ascI2_0 (rw0 : Bool) (l0 : List Nat) : St := ⟨(.any :: .any :: .bool false :: (anys 18 [])), [.at rw0 (.fl .f32 l0)]⟩
def en_ascI2_1 (rw0 : Bool) (l0 : List Nat) : St := ⟨(anys 21 []), [.at rw0 (.fl .f32 l0)]⟩
theorem run_ascI (N : Nat) (n : Nat) (rw : Bool) (l : List Nat) : run ty tab_ascI an_ascI N Try.f33 [.sl 0 0 n] [.at rw (.fl .f32 l)]
    = lp_ascI2 N N (st_ascI2 n 1 rw l) (kt_ascI2 N (kEnd Try.f33 1)) := by
  kernel_rfl
theorem step_ascI2 {R : Type} (N M : Nat) (K : X → St → Option R) (list0n : Nat) (i3 : Int) (rw0 : Bool) (l0 : List Nat) : lp_ascI2 N (M + 1) (st_ascI2 list0n i3 rw0 l0) K
    = (match decide ((i3 : Int) < ((list0n : Nat) : Int)) with | true => (match decide (0 ≤ (i3 : Int) ∧ (i3 : Int) < ((list0n : Nat) : Int)) with | true => (match l0[0 + (i3).toNat * 1]? with | some e1 => (match decide (0 ≤ (IntKind.i64.wrap (i3 - 1) : Int) ∧ (IntKind.i64.wrap (i3 - 1) : Int) < ((list0n : Nat) : Int)) with | true => (match l0[0 + (IntKind.i64.wrap (i3 - 1)).toNat * 1]? with | some e2 => (match !(gtB e1 e2) with | true => K .ret (en_ascI2_0 rw0 l0) | false => lp_ascI2 N M (st_ascI2 list0n (IntKind.i64.wrap (i3 + 1)) rw0 l0) K) | none => none) | false => none) | none => none) | false => none) | false => K (.exit 0) (en_ascI2_1 rw0 l0)) := by
  kernel_rfl
theorem end_ascI2_0 (N : Nat) (rw0 : Bool) (l0 : List Nat) : kt_ascI2 N (kEnd Try.f33 1) .ret (en_ascI2_0 rw0 l0)
    = some (.bool false, [.at rw0 (.fl .f32 l0)]) := by
  kernel_rfl
theorem end_ascI2_1 (N : Nat) (rw0 : Bool) (l0 : List Nat) : kt_ascI2 N (kEnd Try.f33 1) (.exit 0) (en_ascI2_1 rw0 l0)
    = some (.bool true, [.at rw0 (.fl .f32 l0)]) := by
  kernel_rfl
theorem ok_ascI : FnT Try.prog 33 gAsc := by
  refine fnT tabok_ascI Try.func33 rfl rfl an_ascI fun vs h v h' e => ?_
  unfold gAsc at e
  split at e
  case h_2 => exact (T.no_inv e).elim
  rename_i n rw l
  obtain ⟨hd, e⟩ := T.pre_inv e
  obtain ⟨rfl, rfl⟩ := T.ret_inv e
  obtain ⟨rfl, hb⟩ := of_decide_eq_true hd
  refine ⟨l.length - 1 + 1, Eq.trans (run_ascI _ _ _ _) ?_⟩
  have hs := scanR (l.length - 1) (fun i => !gtB (l.getD (i + 1) 0) (l.getD i 0)) (fun M i => lp_ascI2 (l.length - 1 + 1) M (st_ascI2 l.length (i + 1) rw l) (kt_ascI2 (l.length - 1 + 1) (kEnd Try.f33 1))) (some (.bool false, [.at rw (.fl .f32 l)])) (some (.bool true, [.at rw (.fl .f32 l)])) (fun M i hi => ?_) (fun M => ?_)
  · refine Eq.trans hs ?_
    rw [any_not]
    unfold ascB
    cases ((List.range (l.length - 1)).all fun i => gtB (l.getD (i + 1) 0) (l.getD i 0)) <;> rfl
  · have w1 : IntKind.i64.wrap (((i : Nat) : Int) + 1 - 1) = ((i : Nat) : Int) := by rw [wrap_z (by omega) (by omega)]; omega
    have w2 : IntKind.i64.wrap (((i : Nat) : Int) + 1 + 1) = ((i + 1 : Nat) : Int) + 1 := by rw [wrap_z (by omega) (by omega)]; omega
    have c1 : ((i : Nat) : Int) + 1 = ((i + 1 : Nat) : Int) := by omega
    rw [step_ascI2, w1, w2, c1, dlt (show i + 1 < l.length by omega), din (show i + 1 < l.length by omega), ix, getD_some' (show i + 1 < l.length by omega), din (show i < l.length by omega), ix, getD_some' (show i < l.length by omega)]
    try dsimp only
    rw [end_ascI2_0]
    try rfl
  · have c1 : (((l.length - 1 : Nat)) : Int) + 1 = ((l.length - 1 + 1 : Nat) : Int) := by omega
    rw [step_ascI2, c1, dge (show l.length ≤ l.length - 1 + 1 by omega), end_ascI2_1]
def tab_vsI : Fns := tabT [(19, gAllT finB), (33, gAsc)]
theorem tabok_vsI : ∀ f, FnT Try.prog f (tab_vsI f) := (tabT_cons (k := 19) ok_areFinite (tabT_cons (k := 33) ok_ascI tabT_nil))
theorem run_vsI (N : Nat) (n : Nat) (m : Nat) (r0 : Bool) (l0 : List Nat) (r1 : Bool) (l1 : List Nat) : run ty tab_vsI ann0 N Try.f18 [.g [.sl 0 0 n, .sl 1 0 m]] [.at r0 (.fl .f32 l0), .at r1 (.fl .f32 l1)]
    = (match decide ((((n : Nat) : Int) : Int) < 12) with | true => (match ((m : Nat) : Int) == (IntKind.i64.wrap (((n : Nat) : Int) + 1)) with | true => (match decide (l0.length = n ∧ n < 2147483648) with | true => (match l0.all finB with | true => (match decide (l1.length = m ∧ m < 2147483648) with | true => (match l1.all finB with | true => (match decide (l0.length = n ∧ n < 2147483648) with | true => some (.bool (ascB l0), [.at r0 (.fl .f32 l0), .at r1 (.fl .f32 l1)]) | false => none) | false => some (.bool false, [.at r0 (.fl .f32 l0), .at r1 (.fl .f32 l1)])) | false => none) | false => some (.bool false, [.at r0 (.fl .f32 l0), .at r1 (.fl .f32 l1)])) | false => none) | false => some (.bool false, [.at r0 (.fl .f32 l0), .at r1 (.fl .f32 l1)])) | false => some (.bool false, [.at r0 (.fl .f32 l0), .at r1 (.fl .f32 l1)])) := by
  kernel_rfl
theorem ok_vsI : FnT Try.prog 18 gVs := by
  refine fnT tabok_vsI Try.func18 rfl rfl ann0 fun vs h v h' e => ⟨0, ?_⟩
  unfold gVs at e
  split at e
  case h_2 => exact (T.no_inv e).elim
  rename_i n m r0 l0 r1 l1
  obtain ⟨hd, e⟩ := T.pre_inv e
  obtain ⟨rfl, rfl⟩ := T.ret_inv e
  obtain ⟨rfl, hb, rfl, hb2⟩ := of_decide_eq_true hd
  refine Eq.trans (run_vsI 0 l0.length l1.length r0 l0 r1 l1) ?_
  unfold vsB
  by_cases h12 : l0.length < 12
  case neg =>
    rw [decide_eq_false h12, decide_eq_false (show ¬ ((l0.length : Nat) : Int) < 12 by omega)]
    rfl
  rw [decide_eq_true h12, decide_eq_true (show ((l0.length : Nat) : Int) < 12 by omega)]
  have w1 : IntKind.i64.wrap (((l0.length : Nat) : Int) + 1) = ((l0.length + 1 : Nat) : Int) := by rw [wrap_z (by omega) (by omega)]; omega
  rw [w1]
  have hq : (((l1.length : Nat) : Int) == ((l0.length + 1 : Nat) : Int)) = decide (l1.length = l0.length + 1) := by
    by_cases h : l1.length = l0.length + 1
    · rw [h, decide_eq_true rfl]; simp
    · rw [decide_eq_false h]
      have : ((l1.length : Nat) : Int) ≠ ((l0.length + 1 : Nat) : Int) := by omega
      simpa using this
  rw [hq]
  by_cases hl : l1.length = l0.length + 1
  case neg =>
    rw [decide_eq_false hl]
    rfl
  rw [decide_eq_true hl]
  rw [decide_eq_true (show l0.length = l0.length ∧ l0.length < 2147483648 from ⟨rfl, hb⟩)]
  cases l0.all finB
  · rfl
  rw [decide_eq_true (show l1.length = l1.length ∧ l1.length < 2147483648 from ⟨rfl, hb2⟩)]
  cases l1.all finB
  · rfl
  rfl
def gCFin : GT := fun vs h => match vs, h with | [.cx .f32 a b], [] => .ret (.bool (cfB (a, b))) [] | _, _ => .no
def tab_icI : Fns := tabT [(19, gAllT finB)]
theorem tabok_icI : ∀ f, FnT Try.prog f (tab_icI f) := (tabT_cons (k := 19) ok_areFinite tabT_nil)
theorem run_icI (N : Nat) (a : Nat) (b : Nat) : run ty tab_icI ann0 N Try.f27 [.cx .f32 a b] []
    = some (.bool (finB a && (finB b && true)), []) := by
  kernel_rfl
theorem ok_icI : FnT Try.prog 27 gCFin := by
  refine fnT tabok_icI Try.func27 rfl rfl ann0 fun vs h v h' e => ⟨0, ?_⟩
  unfold gCFin at e
  split at e
  case h_2 => exact (T.no_inv e).elim
  rename_i a b
  obtain ⟨rfl, rfl⟩ := T.ret_inv e
  refine Eq.trans (run_icI 0 _ _) ?_
  unfold cfB
  cases finB a <;> cases finB b <;> rfl
def tab_wn1 : Fns := tabT [(27, gCFin)]
theorem tabok_wn1 : ∀ f, FnT Try.prog f (tab_wn1 f) := (tabT_cons (k := 27) ok_icI tabT_nil)
theorem run_wn1 (N : Nat) (a : Nat) (b : Nat) : run ty tab_wn1 ann0 N Try.f26 [.cx .f32 a b] []
    = some (.bool (!(cfB (a, b))), []) := by
  kernel_rfl
def gNotC : GT := fun vs h => match vs, h with | [.cx .f32 a b], [] => .ret (.bool (!cfB (a, b))) [] | _, _ => .no
theorem ok_wn1 : FnT Try.prog 26 gNotC := by
  refine fnT tabok_wn1 Try.func26 rfl rfl ann0 fun vs h v h' e => ⟨0, ?_⟩
  unfold gNotC at e
  split at e
  case h_2 => exact (T.no_inv e).elim
  rename_i a b
  obtain ⟨rfl, rfl⟩ := T.ret_inv e
  exact run_wn1 0 _ _
def gIxC : GT := fun vs h => match vs, h with
  | [.sl 0 0 n, .fn f'], [.at rw (.cx .f32 l)] => if f' = 26 then .ite (decide (l.length = n ∧ n < 2147483648)) (.ret (.int .i64 (ixOf (fun z => !cfB z) l)) [.at rw (.cx .f32 l)]) .no else .no
  | _, _ => .no
def gCoC : GT := fun vs h => match vs, h with
  | [.sl 0 0 n, .fn f'], [.at rw (.cx .f32 l)] => if f' = 26 then .ite (decide (l.length = n ∧ n < 2147483648)) (.ret (.bool (!(l.all cfB))) [.at rw (.cx .f32 l)]) .no else .no
  | _, _ => .no
theorem ix_allC (l : List (Nat × Nat)) : (decide (ixOf (fun z => !cfB z) l ≥ 0)) = !(l.all cfB) := by
  rw [← ix_all cfB l, Bool.not_not]
def an_ixC : Ann := ⟨fun r => if r = 2 then some ([0, 1, 7, 8], [4]) else none, fun _ _ => .quiet⟩
def tab_ixC : Fns := tabT [(26, gNotC)]
theorem tabok_ixC : ∀ f, FnT Try.prog f (tab_ixC f) := (tabT_cons (k := 26) ok_wn1 tabT_nil)
def st_ixC2 (s0n : Nat) (t7 : Int) (t8 : Int) (rw0 : Bool) (l0 : List (Nat × Nat)) : St := ⟨(.sl 0 0 s0n :: .fn 26 :: .any :: .any :: .any :: .any :: .any :: .int .i64 t7 :: .int .i64 t8 :: (anys 10 [])), [.at rw0 (.cx .f32 l0)]⟩
abbrev kp_ixC2 : Option (List Nat × List Nat) := some ([0, 1, 7, 8], [4])
noncomputable def lp_ixC2 {R : Type} (N M : Nat) (s : St) (K : X → St → Option R) : Option R := loopH 1 kp_ixC2 (fun st K => exec ty tab_ixC an_ixC N 1 (atOf [true, false, true, false, false] Try.f38) st K) M s K
noncomputable def kt_ixC2 {R : Type} (N : Nat) (K : X → St → Option R) : X → St → Option R := kBlkR 0 (kSeqR tab_ixC an_ixC N 1 (atOf [true, true] Try.f38) (K))
def en_ixC2_0 (t4 : Int) (rw0 : Bool) (l0 : List (Nat × Nat)) : St := ⟨(.any :: .any :: .any :: .any :: .int .i64 t4 :: (anys 14 [])), [.at rw0 (.cx .f32 l0)]⟩
def en_ixC2_1 (rw0 : Bool) (l0 : List (Nat × Nat)) : St := ⟨(anys 19 []), [.at rw0 (.cx .f32 l0)]⟩
theorem run_ixC (N : Nat) (n : Nat) (rw : Bool) (l : List (Nat × Nat)) : run ty tab_ixC an_ixC N Try.f38 [.sl 0 0 n, .fn 26] [.at rw (.cx .f32 l)]
    = lp_ixC2 N N (st_ixC2 n ((n : Nat) : Int) 0 rw l) (kt_ixC2 N (kEnd Try.f38 1)) := by
  kernel_rfl
theorem step_ixC2 {R : Type} (N M : Nat) (K : X → St → Option R) (s0n : Nat) (t7 : Int) (t8 : Int) (rw0 : Bool) (l0 : List (Nat × Nat)) : lp_ixC2 N (M + 1) (st_ixC2 s0n t7 t8 rw0 l0) K
    = (match decide ((t8 : Int) < t7) with | true => (match decide (0 ≤ (t8 : Int) ∧ (t8 : Int) < ((s0n : Nat) : Int)) with | true => (match l0[0 + (t8).toNat * 1]? with | some (e1, e2) => (match !cfB (e1, e2) with | true => K .ret (en_ixC2_0 t8 rw0 l0) | false => lp_ixC2 N M (st_ixC2 s0n t7 (IntKind.i64.wrap (t8 + 1)) rw0 l0) K) | none => none) | false => none) | false => K (.exit 0) (en_ixC2_1 rw0 l0)) := by
  kernel_rfl
theorem end_ixC2_0 (N : Nat) (t4 : Int) (rw0 : Bool) (l0 : List (Nat × Nat)) : kt_ixC2 N (kEnd Try.f38 1) .ret (en_ixC2_0 t4 rw0 l0)
    = some (.int .i64 t4, [.at rw0 (.cx .f32 l0)]) := by
  kernel_rfl
theorem end_ixC2_1 (N : Nat) (rw0 : Bool) (l0 : List (Nat × Nat)) : kt_ixC2 N (kEnd Try.f38 1) (.exit 0) (en_ixC2_1 rw0 l0)
    = some (.int .i64 (-1), [.at rw0 (.cx .f32 l0)]) := by
  kernel_rfl
theorem ok_ixC : FnT Try.prog 38 gIxC := by
  refine fnT tabok_ixC Try.func38 rfl rfl an_ixC fun vs h v h' e => ?_
  unfold gIxC at e
  split at e
  · rename_i n f' rw l
    split at e
    · rename_i hf
      subst hf
      obtain ⟨hd, e⟩ := T.pre_inv e
      obtain ⟨rfl, rfl⟩ := T.ret_inv e
      obtain ⟨rfl, hb⟩ := of_decide_eq_true hd
      refine ⟨l.length + 1, Eq.trans (run_ixC _ _ _ _) ?_⟩
      refine Eq.trans (scan0 l (fun z => !cfB z) (fun M i => lp_ixC2 (l.length + 1) M (st_ixC2 l.length ((l.length : Nat) : Int) i rw l) (kt_ixC2 (l.length + 1) (kEnd Try.f38 1))) (fun j => some (.int .i64 (j : Int), [.at rw (.cx .f32 l)])) (some (.int .i64 (-1), [.at rw (.cx .f32 l)])) (fun M i x hx => ?_) (fun M => ?_)) ?_
      · have hi := lt_of_get hx
        obtain ⟨x1, x2⟩ := x
        simp only [step_ixC2, dlt hi, din hi, ix, hx, wr (show i < 2147483648 by omega), end_ixC2_0] <;> (cases !cfB (x1, x2) <;> rfl)
      · simp only [step_ixC2, dge (Nat.le_refl _), end_ixC2_1]
      · unfold ixOf
        cases firstIx (fun z => !cfB z) l 0 <;> rfl
    · exact (T.no_inv e).elim
  · exact (T.no_inv e).elim
def tab_coC : Fns := tabT [(38, gIxC)]
theorem tabok_coC : ∀ f, FnT Try.prog f (tab_coC f) := (tabT_cons (k := 38) ok_ixC tabT_nil)
theorem run_coC (N : Nat) (n : Nat) (rw : Bool) (l : List (Nat × Nat)) : run ty tab_coC ann0 N Try.f25 [.sl 0 0 n, .fn 26] [.at rw (.cx .f32 l)]
    = (match decide (l.length = n ∧ n < 2147483648) with | true => some (.bool (decide ((ixOf (fun z => !cfB z) l : Int) ≥ 0)), [.at rw (.cx .f32 l)]) | false => none) := by
  kernel_rfl
theorem ok_coC : FnT Try.prog 25 gCoC := by
  refine fnT tabok_coC Try.func25 rfl rfl ann0 fun vs h v h' e => ⟨0, ?_⟩
  unfold gCoC at e
  split at e
  · split at e
    · rename_i n f' rw l hf
      subst hf
      obtain ⟨hd, e⟩ := T.pre_inv e
      obtain ⟨rfl, rfl⟩ := T.ret_inv e
      refine Eq.trans (run_coC 0 _ _ _) ?_
      rw [hd, ix_allC]
    · exact (T.no_inv e).elim
  · exact (T.no_inv e).elim
def gWn : GT := fun vs h => match vs, h with
  | [.g [.sl 0 0 n, .sl 1 0 m], .fl .f32 e], [.at r0 (.fl .f32 l0), .at r1 (.fl .f32 l1)] => .ite (decide (l0.length = n ∧ n < 2147483648 ∧ l1.length = m ∧ m < 2147483648)) (.ite (wnOk l0 l1 e) (.ret (.tup [.a (.sl 2 0 (wvL e l1).length), .a (.bool true)]) [.at r0 (.fl .f32 l0), .at r1 (.fl .f32 l1), .at true (.cx .f32 (wvL e l1))]) (.ret (.tup [.a .nil, .a (.bool false)]) [.at r0 (.fl .f32 l0), .at r1 (.fl .f32 l1)])) .no
  | _, _ => .no
def an_wnI : Ann := ⟨fun r => if r = 5 then some ([1, 6, 19, 20, 21], [4, 5, 6]) else none, fun _ _ => .quiet⟩
def tab_wnI : Fns := tabT [(18, gVs), (23, gT (gF1 finB)), (24, gT gRoot), (25, gCoC)]
theorem tabok_wnI : ∀ f, FnT Try.prog f (tab_wnI f) := (tabT_cons (k := 18) ok_vsI (tabT_cons (k := 23) ok_IsFinite (tabT_cons (k := 24) ok_RootNumber (tabT_cons (k := 25) ok_coC tabT_nil))))
def st_wnI5 (energy1 : Nat) (out6n : Nat) (t19n : Nat) (t20 : Int) (t21 : Int) (rw0 : Bool) (l0 : List Nat) (rw1 : Bool) (l1 : List Nat) (l2 : List (Nat × Nat)) : St := ⟨(.any :: .fl .f32 energy1 :: .any :: .any :: .any :: .any :: .sl 2 0 out6n :: (anys 12 (.sl 1 0 t19n :: .int .i64 t20 :: .int .i64 t21 :: (anys 31 [])))), [.at rw0 (.fl .f32 l0), .at rw1 (.fl .f32 l1), .at true (.cx .f32 l2)]⟩
abbrev kp_wnI5 : Option (List Nat × List Nat) := some ([1, 6, 19, 20, 21], [4, 5, 6])
noncomputable def lp_wnI5 {R : Type} (N M : Nat) (s : St) (K : X → St → Option R) : Option R := loopH 2 kp_wnI5 (fun st K => exec ty tab_wnI an_wnI N 2 (atOf [true, true, true, false, true, false, false] Try.f13) st K) M s K
noncomputable def kt_wnI5 {R : Type} (N : Nat) (K : X → St → Option R) : X → St → Option R := kBlkR 0 (kSeqR tab_wnI an_wnI N 2 (atOf [true, true, true, true] Try.f13) (K))
def en_wnI5_0 (out6n : Nat) (rw0 : Bool) (l0 : List Nat) (rw1 : Bool) (l1 : List Nat) (l2 : List (Nat × Nat)) : St := ⟨(.any :: .any :: .any :: .any :: .nil :: .bool false :: .sl 2 0 out6n :: (anys 46 [])), [.at rw0 (.fl .f32 l0), .at rw1 (.fl .f32 l1), .at true (.cx .f32 l2)]⟩
def en_wnI5_1 (out6n : Nat) (rw0 : Bool) (l0 : List Nat) (rw1 : Bool) (l1 : List Nat) (l2 : List (Nat × Nat)) : St := ⟨(anys 6 (.sl 2 0 out6n :: (anys 46 []))), [.at rw0 (.fl .f32 l0), .at rw1 (.fl .f32 l1), .at true (.cx .f32 l2)]⟩
theorem run_wnI (N : Nat) (n : Nat) (m : Nat) (e : Nat) (r0 : Bool) (l0 : List Nat) (r1 : Bool) (l1 : List Nat) : run ty tab_wnI an_wnI N Try.f13 [.g [.sl 0 0 n, .sl 1 0 m], .fl .f32 e] [.at r0 (.fl .f32 l0), .at r1 (.fl .f32 l1)]
    = (match decide (l0.length = n ∧ n < 2147483648 ∧ l1.length = m ∧ m < 2147483648) with | true => (match !(vsB l0 l1) with | true => some (.tup [.a (.nil), .a (.bool false)], [.at r0 (.fl .f32 l0), .at r1 (.fl .f32 l1)]) | false => (match !(finB e) with | true => some (.tup [.a (.nil), .a (.bool false)], [.at r0 (.fl .f32 l0), .at r1 (.fl .f32 l1)]) | false => lp_wnI5 N N (st_wnI5 e 0 m ((m : Nat) : Int) 0 r0 l0 r1 l1 []) (kt_wnI5 N (kEnd Try.f13 2)))) | false => none) := by
  kernel_rfl
theorem step_wnI5 {R : Type} (N M : Nat) (K : X → St → Option R) (energy1 : Nat) (out6n : Nat) (t19n : Nat) (t20 : Int) (t21 : Int) (rw0 : Bool) (l0 : List Nat) (rw1 : Bool) (l1 : List Nat) (l2 : List (Nat × Nat)) : lp_wnI5 N (M + 1) (st_wnI5 energy1 out6n t19n t20 t21 rw0 l0 rw1 l1 l2) K
    = (match decide ((t21 : Int) < t20) with | true => (match decide (0 ≤ (t21 : Int) ∧ (t21 : Int) < ((t19n : Nat) : Int)) with | true => (match l1[0 + (t21).toNat * 1]? with | some e1 => (match gtB energy1 e1 with | true => (match apok true out6n 1 l2.length 1 (out6n + 1) 8 with | true => lp_wnI5 N M (st_wnI5 energy1 (out6n + 1) t19n t20 (IntKind.i64.wrap (t21 + 1)) rw0 l0 rw1 l1 (l2 ++ [(rootF (fop .sub .f32 energy1 e1), 0)])) K | false => none) | false => (match ltB energy1 e1 with | true => (match apok true out6n 1 l2.length 1 (out6n + 1) 8 with | true => lp_wnI5 N M (st_wnI5 energy1 (out6n + 1) t19n t20 (IntKind.i64.wrap (t21 + 1)) rw0 l0 rw1 l1 (l2 ++ [(0, rootF (fop .sub .f32 e1 energy1))])) K | false => none) | false => K .ret (en_wnI5_0 out6n rw0 l0 rw1 l1 l2))) | none => none) | false => none) | false => K (.exit 0) (en_wnI5_1 out6n rw0 l0 rw1 l1 l2)) := by
  kernel_rfl
theorem end_wnI5_0 (N : Nat) (out6n : Nat) (rw0 : Bool) (l0 : List Nat) (rw1 : Bool) (l1 : List Nat) (l2 : List (Nat × Nat)) : kt_wnI5 N (kEnd Try.f13 2) .ret (en_wnI5_0 out6n rw0 l0 rw1 l1 l2)
    = some (.tup [.a (.nil), .a (.bool false)], [.at rw0 (.fl .f32 l0), .at rw1 (.fl .f32 l1)]) := by
  kernel_rfl
theorem end_wnI5_1 (N : Nat) (out6n : Nat) (rw0 : Bool) (l0 : List Nat) (rw1 : Bool) (l1 : List Nat) (l2 : List (Nat × Nat)) : kt_wnI5 N (kEnd Try.f13 2) (.exit 0) (en_wnI5_1 out6n rw0 l0 rw1 l1 l2)
    = (match decide (l2.length = out6n ∧ out6n < 2147483648) with | true => (match !(l2.all cfB) with | true => some (.tup [.a (.nil), .a (.bool false)], [.at rw0 (.fl .f32 l0), .at rw1 (.fl .f32 l1)]) | false => some (.tup [.a (.sl 2 0 out6n), .a (.bool true)], [.at rw0 (.fl .f32 l0), .at rw1 (.fl .f32 l1), .at true (.cx .f32 l2)])) | false => none) := by
  kernel_rfl
theorem ok_wnI : FnT Try.prog 13 gWn := by
  refine fnT tabok_wnI Try.func13 rfl rfl an_wnI fun vs h v h' ee => ⟨40, ?_⟩
  unfold gWn at ee
  split at ee
  case h_2 => exact (T.no_inv ee).elim
  rename_i n m e r0 l0 r1 l1
  obtain ⟨hd, e2⟩ := T.pre_inv ee
  refine Eq.trans (run_wnI 40 n m e r0 l0 r1 l1) (Eq.trans ?_ e2)
  rw [hd]
  obtain ⟨rfl, hb, rfl, hb2⟩ := of_decide_eq_true hd
  clear ee e2 hd
  rw [T.run_ite, T.run_ret, T.run_ret]
  unfold wnOk
  cases hv : vsB l0 l1
  · rfl
  cases hf : finB e
  · rfl
  have hv' := hv
  unfold vsB at hv'
  simp only [Bool.and_eq_true] at hv'
  have h12 := of_decide_eq_true hv'.1
  have hl1 := of_decide_eq_true hv'.2.1
  try dsimp only [Bool.not_true]
  have hs := app_scan l1 (wvQ e) (wvV e) (fun M i out => lp_wnI5 40 M (st_wnI5 e out.length l1.length ((l1.length : Nat) : Int) (i : Int) r0 l0 r1 l1 out) (kt_wnI5 40 (kEnd Try.f13 2))) (some ((.tup [.a .nil, .a (.bool false)]), [.at r0 (.fl .f32 l0), .at r1 (.fl .f32 l1)])) (fun out => match out.all cfB with | true => some (.tup [.a (.sl 2 0 out.length), .a (.bool true)], [.at r0 (.fl .f32 l0), .at r1 (.fl .f32 l1), .at true (.cx .f32 out)]) | false => some ((.tup [.a .nil, .a (.bool false)]), [.at r0 (.fl .f32 l0), .at r1 (.fl .f32 l1)])) (fun M i out x hx ho => ?_) (fun M out ho => ?_) l1 [] rfl (39 - l1.length)
  · rw [show l1.length + 1 + (39 - l1.length) = 40 by omega] at hs
    refine Eq.trans hs ?_
    show _ = match true && (true && (l1.all (wvQ e) && (wvL e l1).all cfB)) with | true => _ | false => _
    unfold wvL
    cases l1.all (wvQ e)
    · rfl
    · cases (l1.map (wvV e)).all cfB <;> rfl
  · have hi := lt_of_get hx
    have hap : apok true out.length 1 out.length 1 (out.length + 1) 8 = true := apc rfl (by omega) (by decide)
    rw [step_wnI5, dlt hi, din hi, ix, hx]
    try dsimp only
    unfold wvQ wvV
    cases gtB e x
    · cases ltB e x
      · try dsimp only [Bool.false_or]
        rw [end_wnI5_0]
        try rfl
      · try dsimp only
        rw [hap, wr (show i < 2147483648 by omega)]
        try dsimp only
        rw [List.length_append]
        rfl
    · try dsimp only
      rw [hap, wr (show i < 2147483648 by omega)]
      try dsimp only
      rw [List.length_append]
      rfl
  · rw [step_wnI5, dge (Nat.le_refl _)]
    try dsimp only
    rw [end_wnI5_1, decide_eq_true (show out.length = out.length ∧ out.length < 2147483648 from ⟨rfl, by omega⟩)]
    cases out.all cfB <;> rfl
end Go.Proofs.Ytdbmbelllghdcaa.Ab

namespace Go.Proofs.Ytdbmbelllghdcaa.Ab
set_option linter.unusedVariables false
set_option linter.unusedSimpArgs false
open Go
theorem ok_Float64bits : FnT Try.prog 45 (gBits .f64 .u64) := bits64_ok Try.func45 (by decide) (by rfl) (by rfl) (by rfl)
theorem ok_Float64frombits : FnT Try.prog 39 (gFrom .f64 .u64) := from64_ok Try.func39 (by decide) (by rfl) (by rfl) (by rfl)
def tab_mAbs : Fns := tabT [(45, (gBits .f64 .u64)), (39, (gFrom .f64 .u64))]
theorem tabok_mAbs : ∀ f, FnT Try.prog f (tab_mAbs f) := (tabT_cons (k := 45) ok_Float64bits (tabT_cons (k := 39) ok_Float64frombits tabT_nil))
theorem run_mAbs (N : Nat) (x : Nat) : run ty tab_mAbs ann0 N Try.f40 [.fl .f64 x] []
    = (match !isN .f64 x with | true => some (.fl .f64 (canon .f64 (IntKind.u64.wrap (BitVec.ofInt 64 ((x : Nat) : Int) &&& ~~~ BitVec.ofInt 64 9223372036854775808).toNat).toNat), []) | false => none) := by
  kernel_rfl
def absD (x : Nat) : Nat := x % 9223372036854775808
theorem abs_bits (x : Nat) : (BitVec.ofInt 64 ((x : Nat) : Int) &&& ~~~ BitVec.ofInt 64 9223372036854775808).toNat = absD x := by
  have h1 : (~~~ BitVec.ofInt 64 9223372036854775808) = BitVec.ofNat 64 (2 ^ 63 - 1) := by decide
  rw [h1, BitVec.toNat_and, BitVec.ofInt_natCast, BitVec.toNat_ofNat, BitVec.toNat_ofNat]
  rw [show (2 ^ 63 - 1) % 2 ^ 64 = 2 ^ 63 - 1 by decide, Nat.and_two_pow_sub_one_eq_mod]
  unfold absD
  rw [show (2 : Nat) ^ 63 = 9223372036854775808 by decide, show (2 : Nat) ^ 64 = 18446744073709551616 by decide]
  omega
theorem abs_read {x : Nat} {s : Bool} {m : Nat} {e : Int} (h : Ieee.double.read x = .number s m e) : Ieee.double.read (absD x) = .number false m e := by
  have c1 : Ieee.double.signWeight = 9223372036854775808 := by decide
  unfold Ieee.Format.read at h ⊢
  rw [c1] at h ⊢
  unfold absD
  rw [Nat.mod_mod, Nat.div_eq_of_lt (Nat.mod_lt x (by decide))]
  generalize (x / 9223372036854775808 % 2 == 1) = b at *
  generalize x % 9223372036854775808 = r at *
  dsimp only at h ⊢
  split at h
  · rename_i hr
    rw [if_pos hr]
    cases h
    rfl
  · rename_i hr
    rw [if_neg hr]
    split at h
    · rename_i hr2
      rw [if_pos hr2]
      cases h
      rfl
    · split at h <;> cases h
theorem abs_isN (x : Nat) : isN .f64 (absD x) = isN .f64 x := by
  rw [isN_eq, isN_eq]
  unfold absD
  have : sgn .f64 = 9223372036854775808 := by decide
  rw [this, Nat.mod_mod]
def gAbs : GT := fun vs h => match vs, h with | [.fl .f64 x], [] => .ite (!isN .f64 x) (.ret (.fl .f64 (absD x)) []) .no | _, _ => .no
theorem ok_mAbs : FnT Try.prog 40 gAbs := by
  refine fnT tabok_mAbs Try.func40 rfl rfl ann0 fun vs h v h' e => ⟨0, ?_⟩
  unfold gAbs at e
  split at e
  case h_2 => exact (T.no_inv e).elim
  rename_i x
  obtain ⟨hx, e⟩ := T.pre_inv e
  obtain ⟨rfl, rfl⟩ := T.ret_inv e
  refine Eq.trans (run_mAbs 0 x) ?_
  have hlt : absD x < 9223372036854775808 := Nat.mod_lt _ (by decide)
  have hw : IntKind.u64.wrap ((absD x : Nat) : Int) = ((absD x : Nat) : Int) := by
    simp only [IntKind.wrap, IntKind.signed, IntKind.bits]
    first | omega | (simp; omega)
  rw [hx, abs_bits, hw, Int.toNat_natCast, canon_of (b := absD x) (by rw [abs_isN]; simpa using hx)]
theorem ok_archTrunc : FnT Try.prog 46 (gInteg .zero) := integ_ok Try.func46 (by decide) (by rfl) (by rfl) (by rfl)
def tab_mTrunc : Fns := tabT [(46, (gInteg .zero))]
theorem tabok_mTrunc : ∀ f, FnT Try.prog f (tab_mTrunc f) := (tabT_cons (k := 46) ok_archTrunc tabT_nil)
theorem run_mTrunc (N : Nat) (x : Nat) : run ty tab_mTrunc ann0 N Try.f41 [.fl .f64 x] []
    = some (.fl .f64 (integD .zero x), []) := by
  kernel_rfl
theorem ok_mTrunc : FnT Try.prog 41 (gInteg .zero) := by
  refine fnT tabok_mTrunc Try.func41 rfl rfl ann0 fun vs h v h' e => ⟨0, ?_⟩
  unfold gInteg at e
  split at e
  case h_2 => exact (T.no_inv e).elim
  obtain ⟨rfl, rfl⟩ := T.ret_inv e
  exact run_mTrunc 0 _
def tab_part : Fns := tabT [(41, (gInteg .zero))]
theorem tabok_part : ∀ f, FnT Try.prog f (tab_part f) := (tabT_cons (k := 41) ok_mTrunc tabT_nil)
theorem run_part (N : Nat) (x : Nat) : run ty tab_part ann0 N Try.f30 [.fl .f64 x] []
    = (match eqD (integD .zero x) 0 with | true => (match ltD (fop .sub .f64 x 0) 0 with | true => some (.fl .f64 (fop .add .f64 (fop .sub .f64 x 0) 4607182418800017408), []) | false => some (.fl .f64 (fop .sub .f64 x 0), [])) | false => (match ltD (fop .sub .f64 x (integD .zero x)) 0 with | true => some (.fl .f64 (fop .add .f64 (fop .sub .f64 x (integD .zero x)) 4607182418800017408), []) | false => some (.fl .f64 (fop .sub .f64 x (integD .zero x)), []))) := by
  kernel_rfl
def gPart : GT := fun vs h => match vs, h with | [.fl .f64 x], [] => .ite (smB x) (.ret (.fl .f64 (fracD x)) []) .no | _, _ => .no
theorem ok_part : FnT Try.prog 30 gPart := by
  refine fnT tabok_part Try.func30 rfl rfl ann0 fun vs h v h' e => ⟨0, ?_⟩
  unfold gPart at e
  split at e
  case h_2 => exact (T.no_inv e).elim
  rename_i x
  obtain ⟨hx, e⟩ := T.pre_inv e
  obtain ⟨rfl, rfl⟩ := T.ret_inv e
  refine Eq.trans (run_part 0 x) ?_
  have hw := whole_eq hx
  cases he : eqD (integD .zero x) 0 with
  | true =>
    rw [he] at hw
    have hw : 0 = wholeD x := hw
    unfold fracD
    rw [← hw]
    cases ltD (fop .sub .f64 x 0) 0 <;> rfl
  | false =>
    rw [he] at hw
    have hw : integD .zero x = wholeD x := hw
    unfold fracD
    rw [← hw]
    cases ltD (fop .sub .f64 x (integD .zero x)) 0 <;> rfl
def tab_NaN : Fns := tabT [(39, (gFrom .f64 .u64))]
theorem tabok_NaN : ∀ f, FnT Try.prog f (tab_NaN f) := (tabT_cons (k := 39) ok_Float64frombits tabT_nil)
theorem run_NaN (N : Nat)  : run ty tab_NaN ann0 N Try.f28 [] []
    = some (.fl .f64 9221120237041090560, []) := by
  kernel_rfl
def g_NaN : GT := fun vs h => match vs, h with | [], [] => .ret (.fl .f64 9221120237041090560) [] | _, _ => .no
theorem ok_NaN : FnT Try.prog 28 g_NaN := by
  refine fnT tabok_NaN Try.func28 rfl rfl ann0 fun vs h v h' e => ⟨0, ?_⟩
  unfold g_NaN at e
  split at e
  case h_2 => exact (T.no_inv e).elim
  obtain ⟨rfl, rfl⟩ := T.ret_inv e
  exact Eq.trans (run_NaN 0) (by kernel_rfl)
def tab_huge : Fns := tabT [(40, gAbs)]
theorem tabok_huge : ∀ f, FnT Try.prog f (tab_huge f) := (tabT_cons (k := 40) ok_mAbs tabT_nil)
theorem run_huge (N : Nat) (x : Nat) : run ty tab_huge ann0 N Try.f29 [.fl .f64 x] []
    = (match !isN .f64 x with | true => some (.bool (gtD (absD x) 4841369599423283200 || eqD (absD x) 4841369599423283200), []) | false => none) := by
  kernel_rfl
def hugeD (x : Nat) : Bool := gtD (absD x) 4841369599423283200 || eqD (absD x) 4841369599423283200
def gHuge : GT := fun vs h => match vs, h with | [.fl .f64 x], [] => .ite (!isN .f64 x) (.ret (.bool (hugeD x)) []) .no | _, _ => .no
theorem ok_huge : FnT Try.prog 29 gHuge := by
  refine fnT tabok_huge Try.func29 rfl rfl ann0 fun vs h v h' e => ⟨0, ?_⟩
  unfold gHuge at e
  split at e
  case h_2 => exact (T.no_inv e).elim
  rename_i x
  obtain ⟨hx, e⟩ := T.pre_inv e
  obtain ⟨rfl, rfl⟩ := T.ret_inv e
  refine Eq.trans (run_huge 0 x) ?_
  rw [hx]
  rfl
theorem huge_sm {x : Nat} (h : finD x = true) : hugeD x = !smB x := by
  obtain ⟨s, m, p, hx⟩ := finD_num h
  obtain ⟨h0, h1, h2, _⟩ := read_place hx
  have hs : smB x = decide (p < 0) := by unfold smB; rw [hx]
  have of := order_Z (abs_read hx) (r52 false) h0 (by decide)
  have of : FloatKind.f64.format.order (absD x) 4841369599423283200 = _ := of
  obtain ⟨f1, f2, f3⟩ := cmp52 (s := false) h0 h1 h2 false
  unfold hugeD gtD eqD
  rw [of, hs]
  by_cases hp : p < 0
  · rw [f1 hp, decide_eq_true hp]
    rfl
  · rw [decide_eq_false hp]
    have := f2 hp rfl
    cases hc : compare (Zv false m p) (Zv false 4503599627370496 0) with
    | lt => exact (this hc).elim
    | eq => simp
    | gt => simp
theorem fin_isN {x : Nat} (h : finD x = true) : isN .f64 x = false := by
  obtain ⟨s, m, p, hx⟩ := finD_num h
  unfold isN
  show (Ieee.double.read x).isNaN = false
  rw [hx]
  rfl
end Go.Proofs.Ytdbmbelllghdcaa.Ab

namespace Go.Proofs.Ytdbmbelllghdcaa.Ab
set_option linter.unusedVariables false
set_option linter.unusedSimpArgs false
open Go
def gSine : GT := fun vs h => match vs, h with | [.fl .f64 x], [] => .ite (smB x) (.ret (.fl .f64 (sinD x)) []) .no | _, _ => .no
def tab_sineI : Fns := tabT [(30, gPart)]
theorem tabok_sineI : ∀ f, FnT Try.prog f (tab_sineI f) := (tabT_cons (k := 30) ok_part tabT_nil)
theorem run_sineI (N : Nat) (x : Nat) : run ty tab_sineI ann0 (N + 12) Try.f31 [.fl .f64 x] []
    = (match smB x with | true => (match gtD (fracD x) 4602678819172646912 || eqD (fracD x) 4602678819172646912 with | true => (match gtD (fop .sub .f64 (fracD x) 4602678819172646912) 4598175219545276416 with | true => some (.fl .f64 (fneg .f64 (fop .mul .f64 (fop .mul .f64 (fop .sub .f64 4602678819172646912 (fop .sub .f64 (fracD x) 4602678819172646912)) 4618760256179416344) (fop .sub .f64 4607182418800017408 (fop .quo .f64 (fop .mul .f64 (fop .mul .f64 (fop .mul .f64 (fop .sub .f64 4602678819172646912 (fop .sub .f64 (fracD x) 4602678819172646912)) 4618760256179416344) (fop .mul .f64 (fop .sub .f64 4602678819172646912 (fop .sub .f64 (fracD x) 4602678819172646912)) 4618760256179416344)) (fop .sub .f64 4607182418800017408 (fop .quo .f64 (fop .mul .f64 (fop .mul .f64 (fop .mul .f64 (fop .sub .f64 4602678819172646912 (fop .sub .f64 (fracD x) 4602678819172646912)) 4618760256179416344) (fop .mul .f64 (fop .sub .f64 4602678819172646912 (fop .sub .f64 (fracD x) 4602678819172646912)) 4618760256179416344)) (fop .sub .f64 4607182418800017408 (fop .quo .f64 (fop .mul .f64 (fop .mul .f64 (fop .mul .f64 (fop .sub .f64 4602678819172646912 (fop .sub .f64 (fracD x) 4602678819172646912)) 4618760256179416344) (fop .mul .f64 (fop .sub .f64 4602678819172646912 (fop .sub .f64 (fracD x) 4602678819172646912)) 4618760256179416344)) (fop .sub .f64 4607182418800017408 (fop .quo .f64 (fop .mul .f64 (fop .mul .f64 (fop .mul .f64 (fop .sub .f64 4602678819172646912 (fop .sub .f64 (fracD x) 4602678819172646912)) 4618760256179416344) (fop .mul .f64 (fop .sub .f64 4602678819172646912 (fop .sub .f64 (fracD x) 4602678819172646912)) 4618760256179416344)) (fop .sub .f64 4607182418800017408 (fop .quo .f64 (fop .mul .f64 (fop .mul .f64 (fop .mul .f64 (fop .sub .f64 4602678819172646912 (fop .sub .f64 (fracD x) 4602678819172646912)) 4618760256179416344) (fop .mul .f64 (fop .sub .f64 4602678819172646912 (fop .sub .f64 (fracD x) 4602678819172646912)) 4618760256179416344)) (fop .sub .f64 4607182418800017408 (fop .quo .f64 (fop .mul .f64 (fop .mul .f64 (fop .mul .f64 (fop .sub .f64 4602678819172646912 (fop .sub .f64 (fracD x) 4602678819172646912)) 4618760256179416344) (fop .mul .f64 (fop .sub .f64 4602678819172646912 (fop .sub .f64 (fracD x) 4602678819172646912)) 4618760256179416344)) (fop .sub .f64 4607182418800017408 (fop .quo .f64 (fop .mul .f64 (fop .mul .f64 (fop .mul .f64 (fop .sub .f64 4602678819172646912 (fop .sub .f64 (fracD x) 4602678819172646912)) 4618760256179416344) (fop .mul .f64 (fop .sub .f64 4602678819172646912 (fop .sub .f64 (fracD x) 4602678819172646912)) 4618760256179416344)) (fop .sub .f64 4607182418800017408 (fop .quo .f64 (fop .mul .f64 (fop .mul .f64 (fop .mul .f64 (fop .sub .f64 4602678819172646912 (fop .sub .f64 (fracD x) 4602678819172646912)) 4618760256179416344) (fop .mul .f64 (fop .sub .f64 4602678819172646912 (fop .sub .f64 (fracD x) 4602678819172646912)) 4618760256179416344)) 4607182418800017408) 4643492690795692032))) 4641592734702895104))) 4639692778610098176))) 4637440978796412928))) 4634766966517661696))) 4631107791820423168))) 4626322717216342016))) 4618441417868443648)))), []) | false => some (.fl .f64 (fneg .f64 (fop .mul .f64 (fop .mul .f64 (fop .sub .f64 (fracD x) 4602678819172646912) 4618760256179416344) (fop .sub .f64 4607182418800017408 (fop .quo .f64 (fop .mul .f64 (fop .mul .f64 (fop .mul .f64 (fop .sub .f64 (fracD x) 4602678819172646912) 4618760256179416344) (fop .mul .f64 (fop .sub .f64 (fracD x) 4602678819172646912) 4618760256179416344)) (fop .sub .f64 4607182418800017408 (fop .quo .f64 (fop .mul .f64 (fop .mul .f64 (fop .mul .f64 (fop .sub .f64 (fracD x) 4602678819172646912) 4618760256179416344) (fop .mul .f64 (fop .sub .f64 (fracD x) 4602678819172646912) 4618760256179416344)) (fop .sub .f64 4607182418800017408 (fop .quo .f64 (fop .mul .f64 (fop .mul .f64 (fop .mul .f64 (fop .sub .f64 (fracD x) 4602678819172646912) 4618760256179416344) (fop .mul .f64 (fop .sub .f64 (fracD x) 4602678819172646912) 4618760256179416344)) (fop .sub .f64 4607182418800017408 (fop .quo .f64 (fop .mul .f64 (fop .mul .f64 (fop .mul .f64 (fop .sub .f64 (fracD x) 4602678819172646912) 4618760256179416344) (fop .mul .f64 (fop .sub .f64 (fracD x) 4602678819172646912) 4618760256179416344)) (fop .sub .f64 4607182418800017408 (fop .quo .f64 (fop .mul .f64 (fop .mul .f64 (fop .mul .f64 (fop .sub .f64 (fracD x) 4602678819172646912) 4618760256179416344) (fop .mul .f64 (fop .sub .f64 (fracD x) 4602678819172646912) 4618760256179416344)) (fop .sub .f64 4607182418800017408 (fop .quo .f64 (fop .mul .f64 (fop .mul .f64 (fop .mul .f64 (fop .sub .f64 (fracD x) 4602678819172646912) 4618760256179416344) (fop .mul .f64 (fop .sub .f64 (fracD x) 4602678819172646912) 4618760256179416344)) (fop .sub .f64 4607182418800017408 (fop .quo .f64 (fop .mul .f64 (fop .mul .f64 (fop .mul .f64 (fop .sub .f64 (fracD x) 4602678819172646912) 4618760256179416344) (fop .mul .f64 (fop .sub .f64 (fracD x) 4602678819172646912) 4618760256179416344)) (fop .sub .f64 4607182418800017408 (fop .quo .f64 (fop .mul .f64 (fop .mul .f64 (fop .mul .f64 (fop .sub .f64 (fracD x) 4602678819172646912) 4618760256179416344) (fop .mul .f64 (fop .sub .f64 (fracD x) 4602678819172646912) 4618760256179416344)) 4607182418800017408) 4643492690795692032))) 4641592734702895104))) 4639692778610098176))) 4637440978796412928))) 4634766966517661696))) 4631107791820423168))) 4626322717216342016))) 4618441417868443648)))), [])) | false => (match gtD (fracD x) 4598175219545276416 with | true => some (.fl .f64 (fop .mul .f64 (fop .mul .f64 (fop .sub .f64 4602678819172646912 (fracD x)) 4618760256179416344) (fop .sub .f64 4607182418800017408 (fop .quo .f64 (fop .mul .f64 (fop .mul .f64 (fop .mul .f64 (fop .sub .f64 4602678819172646912 (fracD x)) 4618760256179416344) (fop .mul .f64 (fop .sub .f64 4602678819172646912 (fracD x)) 4618760256179416344)) (fop .sub .f64 4607182418800017408 (fop .quo .f64 (fop .mul .f64 (fop .mul .f64 (fop .mul .f64 (fop .sub .f64 4602678819172646912 (fracD x)) 4618760256179416344) (fop .mul .f64 (fop .sub .f64 4602678819172646912 (fracD x)) 4618760256179416344)) (fop .sub .f64 4607182418800017408 (fop .quo .f64 (fop .mul .f64 (fop .mul .f64 (fop .mul .f64 (fop .sub .f64 4602678819172646912 (fracD x)) 4618760256179416344) (fop .mul .f64 (fop .sub .f64 4602678819172646912 (fracD x)) 4618760256179416344)) (fop .sub .f64 4607182418800017408 (fop .quo .f64 (fop .mul .f64 (fop .mul .f64 (fop .mul .f64 (fop .sub .f64 4602678819172646912 (fracD x)) 4618760256179416344) (fop .mul .f64 (fop .sub .f64 4602678819172646912 (fracD x)) 4618760256179416344)) (fop .sub .f64 4607182418800017408 (fop .quo .f64 (fop .mul .f64 (fop .mul .f64 (fop .mul .f64 (fop .sub .f64 4602678819172646912 (fracD x)) 4618760256179416344) (fop .mul .f64 (fop .sub .f64 4602678819172646912 (fracD x)) 4618760256179416344)) (fop .sub .f64 4607182418800017408 (fop .quo .f64 (fop .mul .f64 (fop .mul .f64 (fop .mul .f64 (fop .sub .f64 4602678819172646912 (fracD x)) 4618760256179416344) (fop .mul .f64 (fop .sub .f64 4602678819172646912 (fracD x)) 4618760256179416344)) (fop .sub .f64 4607182418800017408 (fop .quo .f64 (fop .mul .f64 (fop .mul .f64 (fop .mul .f64 (fop .sub .f64 4602678819172646912 (fracD x)) 4618760256179416344) (fop .mul .f64 (fop .sub .f64 4602678819172646912 (fracD x)) 4618760256179416344)) (fop .sub .f64 4607182418800017408 (fop .quo .f64 (fop .mul .f64 (fop .mul .f64 (fop .mul .f64 (fop .sub .f64 4602678819172646912 (fracD x)) 4618760256179416344) (fop .mul .f64 (fop .sub .f64 4602678819172646912 (fracD x)) 4618760256179416344)) 4607182418800017408) 4643492690795692032))) 4641592734702895104))) 4639692778610098176))) 4637440978796412928))) 4634766966517661696))) 4631107791820423168))) 4626322717216342016))) 4618441417868443648))), []) | false => some (.fl .f64 (fop .mul .f64 (fop .mul .f64 (fracD x) 4618760256179416344) (fop .sub .f64 4607182418800017408 (fop .quo .f64 (fop .mul .f64 (fop .mul .f64 (fop .mul .f64 (fracD x) 4618760256179416344) (fop .mul .f64 (fracD x) 4618760256179416344)) (fop .sub .f64 4607182418800017408 (fop .quo .f64 (fop .mul .f64 (fop .mul .f64 (fop .mul .f64 (fracD x) 4618760256179416344) (fop .mul .f64 (fracD x) 4618760256179416344)) (fop .sub .f64 4607182418800017408 (fop .quo .f64 (fop .mul .f64 (fop .mul .f64 (fop .mul .f64 (fracD x) 4618760256179416344) (fop .mul .f64 (fracD x) 4618760256179416344)) (fop .sub .f64 4607182418800017408 (fop .quo .f64 (fop .mul .f64 (fop .mul .f64 (fop .mul .f64 (fracD x) 4618760256179416344) (fop .mul .f64 (fracD x) 4618760256179416344)) (fop .sub .f64 4607182418800017408 (fop .quo .f64 (fop .mul .f64 (fop .mul .f64 (fop .mul .f64 (fracD x) 4618760256179416344) (fop .mul .f64 (fracD x) 4618760256179416344)) (fop .sub .f64 4607182418800017408 (fop .quo .f64 (fop .mul .f64 (fop .mul .f64 (fop .mul .f64 (fracD x) 4618760256179416344) (fop .mul .f64 (fracD x) 4618760256179416344)) (fop .sub .f64 4607182418800017408 (fop .quo .f64 (fop .mul .f64 (fop .mul .f64 (fop .mul .f64 (fracD x) 4618760256179416344) (fop .mul .f64 (fracD x) 4618760256179416344)) (fop .sub .f64 4607182418800017408 (fop .quo .f64 (fop .mul .f64 (fop .mul .f64 (fop .mul .f64 (fracD x) 4618760256179416344) (fop .mul .f64 (fracD x) 4618760256179416344)) 4607182418800017408) 4643492690795692032))) 4641592734702895104))) 4639692778610098176))) 4637440978796412928))) 4634766966517661696))) 4631107791820423168))) 4626322717216342016))) 4618441417868443648))), []))) | false => none) := by
  kernel_rfl
theorem ok_sineI : FnT Try.prog 31 gSine := by
  refine fnT tabok_sineI Try.func31 rfl rfl ann0 fun vs h v h' e => ⟨12, ?_⟩
  unfold gSine at e
  split at e
  case h_2 => exact (T.no_inv e).elim
  rename_i x
  obtain ⟨hx, e⟩ := T.pre_inv e
  obtain ⟨rfl, rfl⟩ := T.ret_inv e
  refine Eq.trans (run_sineI 0 x) ?_
  rw [hx]
  unfold sinD halfB foldQ
  cases (gtD (fracD x) 4602678819172646912 || eqD (fracD x) 4602678819172646912)
  · cases gtD (fracD x) 4598175219545276416 <;> (show _ = _; kernel_rfl)
  · cases gtD (fop .sub .f64 (fracD x) 4602678819172646912) 4598175219545276416 <;> (show _ = _; kernel_rfl)
def gPh : GT := fun vs h => match vs, h with
  | [.fl .f64 x], [] => .ite (finD x) (.ite (smB x) (.ret (.cx .f32 (nr (phX x)) (nr (phY x))) []) (.ret (.cx .f32 1065353216 0) [])) (.ret (.cx .f32 2143289344 2143289344) [])
  | _, _ => .no
theorem narOk_of {y : Nat} (h : BelD 50 y) : narOk y = true := by unfold narOk; rw [nr_of h]; rfl
theorem nar_nr (y : Nat) : nar y = nr y := rfl
def an_phI : Ann := ⟨fun r => if r = 7 then some ([4, 5], [4, 5]) else none, fun _ _ => .quiet⟩
def tab_phI : Fns := tabT [(28, g_NaN), (29, gHuge), (30, gPart), (31, gSine)]
theorem tabok_phI : ∀ f, FnT Try.prog f (tab_phI f) := (tabT_cons (k := 28) ok_NaN (tabT_cons (k := 29) ok_huge (tabT_cons (k := 30) ok_part (tabT_cons (k := 31) ok_sineI tabT_nil))))
def st_phI7 (f4 : Nat) (q5 : Int) : St := ⟨(.any :: .any :: .any :: .any :: .fl .f64 f4 :: .int .i64 q5 :: (anys 50 [])), []⟩
abbrev kp_phI7 : Option (List Nat × List Nat) := some ([4, 5], [4, 5])
noncomputable def lp_phI7 {R : Type} (N M : Nat) (s : St) (K : X → St → Option R) : Option R := loopH 0 kp_phI7 (fun st K => exec ty tab_phI an_phI N 0 (atOf [true, true, true, true, false, false, false] Try.f14) st K) M s K
noncomputable def kt_phI7 {R : Type} (N : Nat) (K : X → St → Option R) : X → St → Option R := kBlkR 1 (kSeqR tab_phI an_phI N 0 (atOf [true, true, true, true, true] Try.f14) (K))
def en_phI7_0 (f4 : Nat) (q5 : Int) : St := ⟨(.any :: .any :: .any :: .any :: .fl .f64 f4 :: .int .i64 q5 :: (anys 50 [])), []⟩
theorem run_phI (N : Nat) (x : Nat) : run ty tab_phI an_phI N Try.f14 [.fl .f64 x] []
    = (match FloatKind.f64.format.order (fop .sub .f64 x x) 0 != some .eq with | true => some (.cx .f32 2143289344 2143289344, []) | false => (match !isN .f64 x with | true => (match hugeD x with | true => some (.cx .f32 1065353216 0, []) | false => (match smB x with | true => lp_phI7 N N (st_phI7 (fracD x) 0) (kt_phI7 N (kEnd Try.f14 0)) | false => none)) | false => none)) := by
  kernel_rfl
theorem step_phI7 {R : Type} (N M : Nat) (K : X → St → Option R) (f4 : Nat) (q5 : Int) : lp_phI7 N (M + 1) (st_phI7 f4 q5) K
    = (match gtD f4 4598175219545276416 || eqD f4 4598175219545276416 with | true => lp_phI7 N M (st_phI7 (fop .sub .f64 f4 4598175219545276416) (IntKind.i64.wrap (q5 + 1))) K | false => K (.exit 1) (en_phI7_0 f4 q5)) := by
  kernel_rfl
theorem end_phI7_0 (N : Nat) (f4 : Nat) (q5 : Int) : kt_phI7 N (kEnd Try.f14 0) (.exit 1) (en_phI7_0 f4 q5)
    = (match smB (fop .sub .f64 4598175219545276416 f4) with | true => (match smB f4 with | true => (match q5 == 1 with | true => (match fconv .f64 (fop .sub .f64 0 (sinD f4)) .f32 with | some c1 => (match fconv .f64 (sinD (fop .sub .f64 4598175219545276416 f4)) .f32 with | some c2 => some (.cx .f32 c1 c2, []) | none => none) | none => none) | false => (match q5 == 2 with | true => (match fconv .f64 (fop .sub .f64 0 (sinD (fop .sub .f64 4598175219545276416 f4))) .f32 with | some c3 => (match fconv .f64 (fop .sub .f64 0 (sinD f4)) .f32 with | some c4 => some (.cx .f32 c3 c4, []) | none => none) | none => none) | false => (match q5 == 3 with | true => (match fconv .f64 (sinD f4) .f32 with | some c5 => (match fconv .f64 (fop .sub .f64 0 (sinD (fop .sub .f64 4598175219545276416 f4))) .f32 with | some c6 => some (.cx .f32 c5 c6, []) | none => none) | none => none) | false => (match fconv .f64 (sinD (fop .sub .f64 4598175219545276416 f4)) .f32 with | some c7 => (match fconv .f64 (sinD f4) .f32 with | some c8 => some (.cx .f32 c7 c8, []) | none => none) | none => none)))) | false => none) | false => none) := by
  kernel_rfl
theorem ok_phI : FnT Try.prog 14 gPh := by
  refine fnT tabok_phI Try.func14 rfl rfl an_phI fun vs h v h' e => ⟨10, ?_⟩
  unfold gPh at e
  split at e
  case h_2 => exact (T.no_inv e).elim
  rename_i x
  refine Eq.trans (run_phI 10 x) (Eq.trans ?_ e)
  clear e
  show _ = T.k _ _
  simp only [T.k]
  rw [finD_not]
  cases hf : finD x with
  | false => rfl
  | true =>
    dsimp only [Bool.not_true]
    rw [fin_isN hf, huge_sm hf]
    cases hs : smB x with
    | false => rfl
    | true =>
      dsimp only [Bool.not_true, Bool.not_false]
      have hq := quarters (fun M (f : Nat) (q : Int) => lp_phI7 10 M (st_phI7 f q) (kt_phI7 10 (kEnd Try.f14 0))) (fun f q => kt_phI7 10 (kEnd Try.f14 0) (.exit 1) (en_phI7_0 f q)) (fun M f q hg h0 h1 => by
        have hg : (gtD f 4598175219545276416 || eqD f 4598175219545276416) = true := hg
        simp only [step_phI7, hg, wrap_z (n := q + 1) (by omega) (by omega)]) (fun M f q hg h0 h1 => by
        have hg : (gtD f 4598175219545276416 || eqD f 4598175219545276416) = false := hg
        simp only [step_phI7, hg]) 4 _ (pz_pq (frac_pz hs)) 0 5 (by decide) (by decide)
      refine Eq.trans hq ?_
      rw [Int.zero_add]
      obtain ⟨hs1, hs2⟩ := phF_sm hs
      obtain ⟨bc, bs, bnc, bns⟩ := ph_bel hs
      have bc := bc.mono (show (48 : Int) ≤ 50 by decide)
      have bs := bs.mono (show (48 : Int) ≤ 50 by decide)
      have e1 : (qF 4 (fracD x)).1 = phF x := rfl
      have e2 : (qF 4 (fracD x)).2 = phQ x := rfl
      have ec : sinD (fop .sub .f64 4598175219545276416 (phF x)) = phC x := rfl
      have es : sinD (phF x) = phS x := rfl
      rw [e1, e2, end_phI7_0, hs1, hs2]
      simp only [ec, es]
      unfold phX phY
      cases phQ x == 1
      · cases phQ x == 2
        · cases phQ x == 3
          · simp only [nr_of bc, nr_of bs, narOk_of bc, narOk_of bs, nar_nr]
          · simp only [nr_of bs, nr_of bnc, narOk_of bs, narOk_of bnc, nar_nr]
        · simp only [nr_of bnc, nr_of bns, narOk_of bnc, narOk_of bns, nar_nr]
      · simp only [nr_of bns, nr_of bc, narOk_of bns, narOk_of bc, nar_nr]
end Go.Proofs.Ytdbmbelllghdcaa.Ab

namespace Go.Proofs.Ytdbmbelllghdcaa.Ab
set_option linter.unusedVariables false
set_option linter.unusedSimpArgs false
open Go
theorem ok_from64 : FnT Try.prog 39 (gFrom .f64 .u64) := from64_ok Try.func39 (by decide) (by rfl) (by rfl) (by rfl)
def gInf1 : GT := fun vs h => match vs, h with | [.int .i64 1], [] => .ret (.fl .f64 9218868437227405312) [] | _, _ => .no
def tab_mInf : Fns := tabT [(39, (gFrom .f64 .u64))]
theorem tabok_mInf : ∀ f, FnT Try.prog f (tab_mInf f) := (tabT_cons (k := 39) ok_from64 tabT_nil)
theorem run_mInf (N : Nat)  : run ty tab_mInf ann0 N Try.f42 [.int .i64 1] []
    = some (.fl .f64 9218868437227405312, []) := by
  kernel_rfl
theorem ok_mInf : FnT Try.prog 42 (gInf1) := by
  refine fnT tabok_mInf Try.func42 rfl rfl ann0 fun vs h v h' e => ⟨0, ?_⟩
  unfold gInf1 at e
  split at e
  case h_2 => exact (T.no_inv e).elim
  obtain ⟨rfl, rfl⟩ := T.ret_inv e
  exact run_mInf 0
def gED : G := fun vs h => match vs, h with | [.fl .f64 x], [] => some (.fl .f64 (expD x), []) | _, _ => none
def gExp : GT := fun vs h => match vs, h with | [.fl .f32 x], [] => .ite (expOk x) (.ret (.fl .f32 (expF x)) []) .no | _, _ => .no
def tab_exponential : Fns := tabT [(42, gInf1)]
theorem tabok_exponential : ∀ f, FnT Try.prog f (tab_exponential f) := (tabT_cons (k := 42) ok_mInf tabT_nil)
theorem run_exponential (N : Nat) (x : Nat) : run ty tab_exponential ann0 (N + 20) Try.f32 [.fl .f64 x] []
    = (match gtD x 4641240890982006784 with | true => some (.fl .f64 9218868437227405312, []) | false => (match ltD x 13864612927836782592 with | true => some (.fl .f64 0, []) | false => some (.fl .f64 (expV x), []))) := by
  kernel_rfl
theorem ok_exponential : FnT Try.prog 32 (gT gED) := by
  refine fnT tabok_exponential Try.func32 rfl rfl ann0 fun vs h v h' e => ⟨20, ?_⟩
  rw [T.run_of] at e
  unfold gED at e
  split at e
  case h_2 => cases e
  rename_i x
  cases e
  refine Eq.trans (run_exponential 0 x) ?_
  show _ = some (V.fl .f64 (expD x), [])
  unfold expD
  cases gtD x 4641240890982006784 <;> cases ltD x 13864612927836782592 <;> rfl
def tab_ExpNumber : Fns := tabT [(32, gT gED)]
theorem tabok_ExpNumber : ∀ f, FnT Try.prog f (tab_ExpNumber f) := (tabT_cons (k := 32) ok_exponential tabT_nil)
theorem run_ExpNumber (N : Nat) (x : Nat) : run ty tab_ExpNumber ann0 N Try.f16 [.fl .f32 x] []
    = (match fconv .f32 x .f64 with | some c1 => (match fconv .f64 (expD c1) .f32 with | some c2 => some (.fl .f32 c2, []) | none => none) | none => none) := by
  kernel_rfl
theorem ok_ExpNumber : FnT Try.prog 16 (gExp) := by
  refine fnT tabok_ExpNumber Try.func16 rfl rfl ann0 fun vs h v h' e => ⟨0, ?_⟩
  unfold gExp at e
  split at e
  case h_2 => exact (T.no_inv e).elim
  rename_i x
  obtain ⟨hx, e⟩ := T.pre_inv e
  obtain ⟨rfl, rfl⟩ := T.ret_inv e
  refine Eq.trans (run_ExpNumber 0 x) ?_
  simp only [fconv_eq]
  have hx' : (fconv .f64 (expD (up x)) .f32).isSome = true := hx
  unfold expF
  cases hy : fconv .f64 (expD (up x)) .f32 with
  | none => rw [hy] at hx'; cases hx'
  | some y => rfl
end Go.Proofs.Ytdbmbelllghdcaa.Ab

namespace Go.Proofs.Ytdbmbelllghdcaa.Ab
set_option linter.unusedVariables false
set_option linter.unusedSimpArgs false
open Go
def trW (a b : Nat) : Nat := fop .quo .f64 (up (fop .mul .f32 a b)) 4618760256179416344
def gTrI : GT := fun vs h => match vs, h with | [.fl .f32 a, .fl .f32 b], [] => .ret (.fl .f64 (trW a b)) [] | _, _ => .no
def tab_trI : Fns := tabT []
theorem tabok_trI : ∀ f, FnT Try.prog f (tab_trI f) := tabT_nil
theorem run_trI (N : Nat) (a : Nat) (b : Nat) : run ty tab_trI ann0 N Try.f15 [.fl .f32 a, .fl .f32 b] []
    = (match fconv .f32 (fop .mul .f32 a b) .f64 with | some c1 => some (.fl .f64 (fop .quo .f64 c1 4618760256179416344), []) | none => none) := by
  kernel_rfl
theorem ok_trI : FnT Try.prog 15 gTrI := by
  refine fnT tabok_trI Try.func15 rfl rfl ann0 fun vs h v h' e => ⟨0, ?_⟩
  unfold gTrI at e
  split at e
  case h_2 => exact (T.no_inv e).elim
  obtain ⟨rfl, rfl⟩ := T.ret_inv e
  refine Eq.trans (run_trI 0 _ _) ?_
  try simp only [fconv_eq]
  try rfl
def phR (x : Nat) : Nat := match finD x with | true => (match smB x with | true => nr (phX x) | false => 1065353216) | false => 2143289344
def phI (x : Nat) : Nat := match finD x with | true => (match smB x with | true => nr (phY x) | false => 0) | false => 2143289344
def gPh2 : GT := fun vs h => match vs, h with | [.fl .f64 x], [] => .ret (.cx .f32 (phR x) (phI x)) [] | _, _ => .no
theorem FnT.less {f : FuncId} {g g' : GT} (h : FnT Try.prog f g) (e : ∀ vs h v h', (g' vs h).run = some (v, h') → (g vs h).run = some (v, h')) : FnT Try.prog f g' := fun vs h0 v h' hg => h vs h0 v h' (e vs h0 v h' hg)
theorem ok_ph2 : FnT Try.prog 14 gPh2 := by
  refine FnT.less ok_phI fun vs h v h' e => ?_
  unfold gPh2 at e
  split at e
  case h_2 => exact (T.no_inv e).elim
  rename_i x
  refine Eq.trans ?_ e
  unfold phR phI
  show T.run (T.ite (finD x) _ _) = _
  cases finD x
  · rfl
  · cases smB x <;> rfl
def pcB (e h : Nat) : Bool := FloatKind.f32.format.order (wvV e h).1 0 != some .eq
def cR (k w : Nat) : Nat := phR (trW k w)
def dR (k w : Nat) : Nat := fop .quo .f32 (phI (trW k w)) k
def uR (k w : Nat) : Nat := fop .sub .f32 0 (fop .mul .f32 k (phI (trW k w)))
def xI (k w : Nat) : Nat := fop .mul .f32 k w
def yI (k w : Nat) : Nat := fop .sub .f32 0 (fop .mul .f32 k w)
def hI (k w : Nat) : Nat := fop .mul .f32 1056964608 (fop .sub .f32 (expF (xI k w)) (expF (yI k w)))
def cI (k w : Nat) : Nat := fop .mul .f32 1056964608 (fop .add .f32 (expF (xI k w)) (expF (yI k w)))
def dI (k w : Nat) : Nat := fop .quo .f32 (hI k w) k
def uI (k w : Nat) : Nat := fop .mul .f32 k (hI k w)
def tM (a b c d : Nat) : Nat := fop .add .f32 (fop .mul .f32 a b) (fop .mul .f32 c d)
def qS (c d u : Nat) : List Nat → List Nat
  | [m, n, o, q] => [tM c m d o, tM c n d q, tM u m c o, tM u n c q]
  | _ => []
def q1 : List Nat := [1065353216, 0, 0, 1065353216]
def qR (k w : Nat) (q : List Nat) : List Nat := qS (cR k w) (dR k w) (uR k w) q
def qI (k w : Nat) (q : List Nat) : List Nat := qS (cI k w) (dI k w) (uI k w) q
def finC (r0 : Bool) (l0 : List Nat) (r1 : Bool) (l1 L : List Nat) : Option (V × H) := match decide (L.length = 4 ∧ 4 < 2147483648) with
  | true => (match L.all finB with
    | true => some (.tup [.a (.sl 2 0 4), .a (.bool true)], [.at r0 (.fl .f32 l0), .at r1 (.fl .f32 l1), .at true (.fl .f32 L)])
    | false => some (.tup [.a .nil, .a (.bool false)], [.at r0 (.fl .f32 l0), .at r1 (.fl .f32 l1)]))
  | false => none
def pcOk (e h w : Nat) : Bool := pcB e h || (expOk (xI (wvV e h).2 w) && expOk (yI (wvV e h).2 w))
def qd (e h w : Nat) (q : List Nat) : List Nat := match pcB e h with | true => qR (wvV e h).1 w q | false => qI (wvV e h).2 w q
def tab_ct2 : Fns := tabT [(13, gWn), (15, gTrI), (14, gPh2), (17, gLsT), (16, gExp)]
theorem tabok_ct2 : ∀ f, FnT Try.prog f (tab_ct2 f) := (tabT_cons (k := 13) ok_wnI (tabT_cons (k := 15) ok_trI (tabT_cons (k := 14) ok_ph2 (tabT_cons (k := 17) ok_checkedNumbers (tabT_cons (k := 16) ok_ExpNumber tabT_nil)))))
theorem run_ct2 (N : Nat) (r0 r1 : Bool) (a0 a1 b0 b1 b2 e : Nat) : run ty tab_ct2 ann0 N Try.f7 [.g [.sl 0 0 2, .sl 1 0 3], .fl .f32 e] [.at r0 (.fl .f32 [a0, a1]), .at r1 (.fl .f32 [b0, b1, b2])]
    = (match wnOk [a0, a1] [b0, b1, b2] e with | true => (match pcB e b1 with | true => finC r0 [a0, a1] r1 [b0, b1, b2] (qR (wvV e b1).1 (fop .sub .f32 a1 a0) (q1)) | false => (match expOk (xI (wvV e b1).2 (fop .sub .f32 a1 a0)) with | true => (match expOk (yI (wvV e b1).2 (fop .sub .f32 a1 a0)) with | true => finC r0 [a0, a1] r1 [b0, b1, b2] (qI (wvV e b1).2 (fop .sub .f32 a1 a0) (q1)) | false => none) | false => none)) | false => some (.tup [.a .nil, .a (.bool false)], [.at r0 (.fl .f32 [a0, a1]), .at r1 (.fl .f32 [b0, b1, b2])])) := by
  kernel_rfl
def cell2 (a0 a1 b0 b1 b2 e : Nat) : List Nat := qd e b1 (fop .sub .f32 a1 a0) (q1)
def cOk2 (a0 a1 b0 b1 b2 e : Nat) : Bool := pcOk e b1 (fop .sub .f32 a1 a0)
theorem ct2 (N : Nat) (r0 r1 : Bool) (a0 a1 b0 b1 b2 e : Nat) (hok : cOk2 a0 a1 b0 b1 b2 e = true) : run ty tab_ct2 ann0 N Try.f7 [.g [.sl 0 0 2, .sl 1 0 3], .fl .f32 e] [.at r0 (.fl .f32 [a0, a1]), .at r1 (.fl .f32 [b0, b1, b2])]
    = (match wnOk [a0, a1] [b0, b1, b2] e with | true => finC r0 [a0, a1] r1 [b0, b1, b2] (cell2 a0 a1 b0 b1 b2 e) | false => some (.tup [.a .nil, .a (.bool false)], [.at r0 (.fl .f32 [a0, a1]), .at r1 (.fl .f32 [b0, b1, b2])])) := by
  refine Eq.trans (run_ct2 N r0 r1 a0 a1 b0 b1 b2 e) ?_
  cases wnOk [a0, a1] [b0, b1, b2] e with
  | false => rfl
  | true =>
    show _ = finC r0 [a0, a1] r1 [b0, b1, b2] (cell2 a0 a1 b0 b1 b2 e)
    unfold cOk2 at hok
    have hok1 := hok
    unfold cell2 qd
    cases h1 : pcB e b1 with
    | true =>
      skip
      all_goals rfl
    | false =>
      have hp1 := hok1
      unfold pcOk at hp1
      rw [h1, Bool.false_or, Bool.and_eq_true] at hp1
      rw [hp1.1, hp1.2]
      all_goals rfl
def tab_ct3 : Fns := tabT [(13, gWn), (15, gTrI), (14, gPh2), (17, gLsT), (16, gExp)]
theorem tabok_ct3 : ∀ f, FnT Try.prog f (tab_ct3 f) := (tabT_cons (k := 13) ok_wnI (tabT_cons (k := 15) ok_trI (tabT_cons (k := 14) ok_ph2 (tabT_cons (k := 17) ok_checkedNumbers (tabT_cons (k := 16) ok_ExpNumber tabT_nil)))))
theorem run_ct3 (N : Nat) (r0 r1 : Bool) (a0 a1 a2 b0 b1 b2 b3 e : Nat) : run ty tab_ct3 ann0 N Try.f7 [.g [.sl 0 0 3, .sl 1 0 4], .fl .f32 e] [.at r0 (.fl .f32 [a0, a1, a2]), .at r1 (.fl .f32 [b0, b1, b2, b3])]
    = (match wnOk [a0, a1, a2] [b0, b1, b2, b3] e with | true => (match pcB e b1 with | true => (match pcB e b2 with | true => finC r0 [a0, a1, a2] r1 [b0, b1, b2, b3] (qR (wvV e b2).1 (fop .sub .f32 a2 a1) (qR (wvV e b1).1 (fop .sub .f32 a1 a0) (q1))) | false => (match expOk (xI (wvV e b2).2 (fop .sub .f32 a2 a1)) with | true => (match expOk (yI (wvV e b2).2 (fop .sub .f32 a2 a1)) with | true => finC r0 [a0, a1, a2] r1 [b0, b1, b2, b3] (qI (wvV e b2).2 (fop .sub .f32 a2 a1) (qR (wvV e b1).1 (fop .sub .f32 a1 a0) (q1))) | false => none) | false => none)) | false => (match expOk (xI (wvV e b1).2 (fop .sub .f32 a1 a0)) with | true => (match expOk (yI (wvV e b1).2 (fop .sub .f32 a1 a0)) with | true => (match pcB e b2 with | true => finC r0 [a0, a1, a2] r1 [b0, b1, b2, b3] (qR (wvV e b2).1 (fop .sub .f32 a2 a1) (qI (wvV e b1).2 (fop .sub .f32 a1 a0) (q1))) | false => (match expOk (xI (wvV e b2).2 (fop .sub .f32 a2 a1)) with | true => (match expOk (yI (wvV e b2).2 (fop .sub .f32 a2 a1)) with | true => finC r0 [a0, a1, a2] r1 [b0, b1, b2, b3] (qI (wvV e b2).2 (fop .sub .f32 a2 a1) (qI (wvV e b1).2 (fop .sub .f32 a1 a0) (q1))) | false => none) | false => none)) | false => none) | false => none)) | false => some (.tup [.a .nil, .a (.bool false)], [.at r0 (.fl .f32 [a0, a1, a2]), .at r1 (.fl .f32 [b0, b1, b2, b3])])) := by
  kernel_rfl
def cell3 (a0 a1 a2 b0 b1 b2 b3 e : Nat) : List Nat := qd e b2 (fop .sub .f32 a2 a1) (qd e b1 (fop .sub .f32 a1 a0) (q1))
def cOk3 (a0 a1 a2 b0 b1 b2 b3 e : Nat) : Bool := pcOk e b1 (fop .sub .f32 a1 a0) && pcOk e b2 (fop .sub .f32 a2 a1)
theorem ct3 (N : Nat) (r0 r1 : Bool) (a0 a1 a2 b0 b1 b2 b3 e : Nat) (hok : cOk3 a0 a1 a2 b0 b1 b2 b3 e = true) : run ty tab_ct3 ann0 N Try.f7 [.g [.sl 0 0 3, .sl 1 0 4], .fl .f32 e] [.at r0 (.fl .f32 [a0, a1, a2]), .at r1 (.fl .f32 [b0, b1, b2, b3])]
    = (match wnOk [a0, a1, a2] [b0, b1, b2, b3] e with | true => finC r0 [a0, a1, a2] r1 [b0, b1, b2, b3] (cell3 a0 a1 a2 b0 b1 b2 b3 e) | false => some (.tup [.a .nil, .a (.bool false)], [.at r0 (.fl .f32 [a0, a1, a2]), .at r1 (.fl .f32 [b0, b1, b2, b3])])) := by
  refine Eq.trans (run_ct3 N r0 r1 a0 a1 a2 b0 b1 b2 b3 e) ?_
  cases wnOk [a0, a1, a2] [b0, b1, b2, b3] e with
  | false => rfl
  | true =>
    show _ = finC r0 [a0, a1, a2] r1 [b0, b1, b2, b3] (cell3 a0 a1 a2 b0 b1 b2 b3 e)
    unfold cOk3 at hok
    rw [Bool.and_eq_true] at hok
    obtain ⟨hok1, hok2⟩ := hok
    unfold cell3 qd
    cases h1 : pcB e b1 with
    | true =>
      skip
      cases h2 : pcB e b2 with
      | true =>
        skip
        all_goals rfl
      | false =>
        have hp2 := hok2
        unfold pcOk at hp2
        rw [h2, Bool.false_or, Bool.and_eq_true] at hp2
        rw [hp2.1, hp2.2]
        all_goals rfl
    | false =>
      have hp1 := hok1
      unfold pcOk at hp1
      rw [h1, Bool.false_or, Bool.and_eq_true] at hp1
      rw [hp1.1, hp1.2]
      cases h2 : pcB e b2 with
      | true =>
        skip
        all_goals rfl
      | false =>
        have hp2 := hok2
        unfold pcOk at hp2
        rw [h2, Bool.false_or, Bool.and_eq_true] at hp2
        rw [hp2.1, hp2.2]
        all_goals rfl
end Go.Proofs.Ytdbmbelllghdcaa.Ab

namespace Go.Proofs.Ytdbmbelllghdcaa.Ab
set_option linter.unusedVariables false
set_option linter.unusedSimpArgs false
open Go
def cellV (l0 l1 : List Nat) (e : Nat) : List Nat := match l0, l1 with
  | [a0, a1], [b0, b1, b2] => cell2 a0 a1 b0 b1 b2 e
  | [a0, a1, a2], [b0, b1, b2, b3] => cell3 a0 a1 a2 b0 b1 b2 b3 e
  | _, _ => []
def cellO (l0 l1 : List Nat) (e : Nat) : Bool := match l0, l1 with
  | [a0, a1], [b0, b1, b2] => cOk2 a0 a1 b0 b1 b2 e
  | [a0, a1, a2], [b0, b1, b2, b3] => cOk3 a0 a1 a2 b0 b1 b2 b3 e
  | _, _ => false
def g4 (l : List Nat) : List Nat := [l.getD 0 0, l.getD 1 0, l.getD 2 0, l.getD 3 0]
theorem g4_eq : ∀ {l : List Nat}, l.length = 4 → g4 l = l
  | [a, b, c, d], _ => rfl
theorem qS_len (c d u : Nat) {q : List Nat} (h : q.length = 4) : (qS c d u q).length = 4 := by
  match q, h with
  | [a, b, c, d], _ => rfl
theorem qd_len (e h w : Nat) {q : List Nat} (k : q.length = 4) : (qd e h w q).length = 4 := by
  unfold qd qR qI
  cases pcB e h
  · exact qS_len _ _ _ k
  · exact qS_len _ _ _ k
theorem cellV_len {l0 l1 : List Nat} {e : Nat} (h : cellO l0 l1 e = true) : (cellV l0 l1 e).length = 4 := by
  unfold cellO at h
  split at h
  · exact qd_len _ _ _ rfl
  · exact qd_len _ _ _ (qd_len _ _ _ rfl)
  · cases h
def isO (l0 l1 : List Nat) (e : Nat) : Bool := wnOk l0 l1 e && (cellV l0 l1 e).all finB
def hB (l : List Nat) : Nat := fop .mul .f32 1056964608 (fop .add .f32 (l.getD 0 0) (l.getD 3 0))
def isB (l0 l1 : List Nat) (e : Nat) : Bool := isO l0 l1 e && ((gtB (hB (cellV l0 l1 e)) 3212836864 || eqB (hB (cellV l0 l1 e)) 3212836864) && (ltB (hB (cellV l0 l1 e)) 1065353216 || eqB (hB (cellV l0 l1 e)) 1065353216))
def shO (n m : Nat) (l0 l1 : List Nat) (e : Nat) : Bool := decide (l0.length = n ∧ l1.length = m) && cellO l0 l1 e
def gCell : GT := fun vs h => match vs, h with
  | [.g [.sl 0 0 n, .sl 1 0 m], .fl .f32 e], [.at r0 (.fl .f32 l0), .at r1 (.fl .f32 l1)] => .ite (shO n m l0 l1 e) (.ite (isO l0 l1 e) (.ret (.tup [.a (.sl 2 0 4), .a (.bool true)]) [.at r0 (.fl .f32 l0), .at r1 (.fl .f32 l1), .at true (.fl .f32 (g4 (cellV l0 l1 e)))]) (.ret (.tup [.a .nil, .a (.bool false)]) [.at r0 (.fl .f32 l0), .at r1 (.fl .f32 l1)])) .no
  | _, _ => .no
def gIsB : GT := fun vs h => match vs, h with
  | [.g [.sl 0 0 n, .sl 1 0 m], .fl .f32 e], [.at r0 (.fl .f32 l0), .at r1 (.fl .f32 l1)] => .ite (shO n m l0 l1 e) (.ret (.tup [.a (.bool (isB l0 l1 e)), .a (.bool (isO l0 l1 e))]) [.at r0 (.fl .f32 l0), .at r1 (.fl .f32 l1)]) .no
  | _, _ => .no
theorem finC_eq {r0 r1 : Bool} {l0 l1 L : List Nat} (h : L.length = 4) : finC r0 l0 r1 l1 L = match L.all finB with | true => some (.tup [.a (.sl 2 0 4), .a (.bool true)], [.at r0 (.fl .f32 l0), .at r1 (.fl .f32 l1), .at true (.fl .f32 (g4 L))]) | false => some (.tup [.a .nil, .a (.bool false)], [.at r0 (.fl .f32 l0), .at r1 (.fl .f32 l1)]) := by
  unfold finC
  rw [g4_eq h, decide_eq_true (show L.length = 4 ∧ 4 < 2147483648 from ⟨h, by decide⟩)]
  all_goals (cases L.all finB <;> rfl)
theorem ok_ct2 : FnT Try.prog 7 (fun vs h => match vs, h with | [.g [.sl 0 0 2, .sl 1 0 3], .fl .f32 e], [.at r0 (.fl .f32 [a0, a1]), .at r1 (.fl .f32 [b0, b1, b2])] => .ite (cOk2 a0 a1 b0 b1 b2 e) (T.of (match wnOk [a0, a1] [b0, b1, b2] e with | true => finC r0 [a0, a1] r1 [b0, b1, b2] (cell2 a0 a1 b0 b1 b2 e) | false => some (.tup [.a .nil, .a (.bool false)], [.at r0 (.fl .f32 [a0, a1]), .at r1 (.fl .f32 [b0, b1, b2])]))) .no | _, _ => .no) := by
  refine fnT tabok_ct2 Try.func7 rfl rfl ann0 fun vs h v h' e => ⟨0, ?_⟩
  split at e
  case h_2 => exact (T.no_inv e).elim
  obtain ⟨hd, e2⟩ := T.pre_inv e
  rw [T.run_of] at e2
  exact (ct2 0 _ _ _ _ _ _ _ _ hd).trans e2
theorem ok_ct3 : FnT Try.prog 7 (fun vs h => match vs, h with | [.g [.sl 0 0 3, .sl 1 0 4], .fl .f32 e], [.at r0 (.fl .f32 [a0, a1, a2]), .at r1 (.fl .f32 [b0, b1, b2, b3])] => .ite (cOk3 a0 a1 a2 b0 b1 b2 b3 e) (T.of (match wnOk [a0, a1, a2] [b0, b1, b2, b3] e with | true => finC r0 [a0, a1, a2] r1 [b0, b1, b2, b3] (cell3 a0 a1 a2 b0 b1 b2 b3 e) | false => some (.tup [.a .nil, .a (.bool false)], [.at r0 (.fl .f32 [a0, a1, a2]), .at r1 (.fl .f32 [b0, b1, b2, b3])]))) .no | _, _ => .no) := by
  refine fnT tabok_ct3 Try.func7 rfl rfl ann0 fun vs h v h' e => ⟨0, ?_⟩
  split at e
  case h_2 => exact (T.no_inv e).elim
  obtain ⟨hd, e2⟩ := T.pre_inv e
  rw [T.run_of] at e2
  exact (ct3 0 _ _ _ _ _ _ _ _ _ _ hd).trans e2
theorem ok_cell : FnT Try.prog 7 gCell := by
  intro vs h v h' e
  unfold gCell at e
  split at e
  case h_2 => exact (T.no_inv e).elim
  rename_i n m e0 r0 l0 r1 l1
  obtain ⟨hd, e2⟩ := T.pre_inv e
  clear e
  unfold shO at hd
  rw [Bool.and_eq_true] at hd
  obtain ⟨rfl, rfl⟩ := of_decide_eq_true hd.1
  have hlen := cellV_len hd.2
  have hc := hd.2
  unfold isO at e2
  unfold cellO at hc
  split at hc
  · rename_i a0 a1 b0 b1 b2
    have hl : (cell2 a0 a1 b0 b1 b2 e0).length = 4 := hlen
    refine ok_ct2 _ _ _ _ ?_
    show T.run (T.ite (cOk2 a0 a1 b0 b1 b2 e0) _ .no) = _
    rw [hc]
    show T.run (T.of _) = _
    rw [T.run_of, finC_eq hl]
    refine Eq.trans ?_ e2
    show _ = T.run (T.ite (wnOk [a0, a1] [b0, b1, b2] e0 && (cell2 a0 a1 b0 b1 b2 e0).all finB) _ _)
    cases wnOk [a0, a1] [b0, b1, b2] e0
    · rfl
    · cases (cell2 a0 a1 b0 b1 b2 e0).all finB <;> rfl
  · rename_i a0 a1 a2 b0 b1 b2 b3
    have hl : (cell3 a0 a1 a2 b0 b1 b2 b3 e0).length = 4 := hlen
    refine ok_ct3 _ _ _ _ ?_
    show T.run (T.ite (cOk3 a0 a1 a2 b0 b1 b2 b3 e0) _ .no) = _
    rw [hc]
    show T.run (T.of _) = _
    rw [T.run_of, finC_eq hl]
    refine Eq.trans ?_ e2
    show _ = T.run (T.ite (wnOk [a0, a1, a2] [b0, b1, b2, b3] e0 && (cell3 a0 a1 a2 b0 b1 b2 b3 e0).all finB) _ _)
    cases wnOk [a0, a1, a2] [b0, b1, b2, b3] e0
    · rfl
    · cases (cell3 a0 a1 a2 b0 b1 b2 b3 e0).all finB <;> rfl
  · cases hc
def tab_isb : Fns := tabT [(7, gCell)]
theorem tabok_isb : ∀ f, FnT Try.prog f (tab_isb f) := (tabT_cons (k := 7) ok_cell tabT_nil)
theorem run_isb (N : Nat) (n : Nat) (m : Nat) (e : Nat) (r0 : Bool) (l0 : List Nat) (r1 : Bool) (l1 : List Nat) : run ty tab_isb ann0 N Try.f8 [.g [.sl 0 0 n, .sl 1 0 m], .fl .f32 e] [.at r0 (.fl .f32 l0), .at r1 (.fl .f32 l1)]
    = (match shO n m l0 l1 e with | true => (match isO l0 l1 e with | true => (match gtB (fop .mul .f32 1056964608 (fop .add .f32 ((cellV l0 l1 e).getD 0 0) ((cellV l0 l1 e).getD 3 0))) 3212836864 || eqB (fop .mul .f32 1056964608 (fop .add .f32 ((cellV l0 l1 e).getD 0 0) ((cellV l0 l1 e).getD 3 0))) 3212836864 with | true => some (.tup [.a (.bool (ltB (fop .mul .f32 1056964608 (fop .add .f32 ((cellV l0 l1 e).getD 0 0) ((cellV l0 l1 e).getD 3 0))) 1065353216 || eqB (fop .mul .f32 1056964608 (fop .add .f32 ((cellV l0 l1 e).getD 0 0) ((cellV l0 l1 e).getD 3 0))) 1065353216)), .a (.bool true)], [.at r0 (.fl .f32 l0), .at r1 (.fl .f32 l1)]) | false => some (.tup [.a (.bool false), .a (.bool true)], [.at r0 (.fl .f32 l0), .at r1 (.fl .f32 l1)])) | false => some (.tup [.a (.bool false), .a (.bool false)], [.at r0 (.fl .f32 l0), .at r1 (.fl .f32 l1)])) | false => none) := by
  kernel_rfl
theorem ok_isb : FnT Try.prog 8 gIsB := by
  refine fnT tabok_isb Try.func8 rfl rfl ann0 fun vs h v h' e => ⟨0, ?_⟩
  unfold gIsB at e
  split at e
  case h_2 => exact (T.no_inv e).elim
  rename_i n m e0 r0 l0 r1 l1
  obtain ⟨hd, e⟩ := T.pre_inv e
  obtain ⟨rfl, rfl⟩ := T.ret_inv e
  refine Eq.trans (run_isb 0 n m e0 r0 l0 r1 l1) ?_
  rw [hd]
  unfold isB hB
  cases isO l0 l1 e0
  · rfl
  · generalize cellV l0 l1 e0 = L
    dsimp only [Bool.true_and]
    cases gtB (fop .mul .f32 1056964608 (fop .add .f32 (L.getD 0 0) (L.getD 3 0))) 3212836864 || eqB (fop .mul .f32 1056964608 (fop .add .f32 (L.getD 0 0) (L.getD 3 0))) 3212836864 <;> rfl
end Go.Proofs.Ytdbmbelllghdcaa.Ab

namespace Go.Proofs.Ytdbmbelllghdcaa.Ab
set_option linter.unusedVariables false
set_option linter.unusedSimpArgs false
open Go
def v_eat (a : Nat) (b : Nat) (i : Int) (n : Int) : Nat := fop .add .f32 a (fop .quo .f32 (fop .mul .f32 (fop .sub .f32 b a) (floatOfInt .f32 i)) (floatOfInt .f32 (IntKind.i64.wrap (n - 1))))
def g_eat : G := fun vs h => match vs, h with | [.fl .f32 a, .fl .f32 b, .int .i64 i, .int .i64 n], [] => some (.fl .f32 (v_eat a b i n), []) | _, _ => none
def tab_eat : Fns := tabT []
theorem tabok_eat : ∀ f, FnT Try.prog f (tab_eat f) := tabT_nil
theorem run_eat (N : Nat) (a : Nat) (b : Nat) (i : Int) (n : Int) : run ty tab_eat ann0 N Try.f21 [.fl .f32 a, .fl .f32 b, .int .i64 i, .int .i64 n] []
    = some (.fl .f32 (fop .add .f32 a (fop .quo .f32 (fop .mul .f32 (fop .sub .f32 b a) (floatOfInt .f32 i)) (floatOfInt .f32 (IntKind.i64.wrap (n - 1))))), []) := by
  kernel_rfl
theorem ok_eat : FnT Try.prog 21 (gT g_eat) := by
  refine fnT tabok_eat Try.func21 rfl rfl ann0 fun vs h v h' e => ⟨0, ?_⟩
  rw [T.run_of] at e
  unfold g_eat at e
  split at e
  case h_2 => cases e
  cases e
  exact run_eat 0 _ _ _ _
def an_be : Ann := ⟨fun r => if r = 6 then some ([1, 2, 3, 4, 5, 12, 13, 14, 50, 51], [10, 11, 12]) else if r = 15 then some ([1, 2, 3, 4, 5, 12, 14, 16, 17, 19, 20, 50, 51, 76, 77], [1, 2, 3, 4, 5, 10, 11, 12, 16, 17, 19, 50, 51]) else none, fun _ _ => .quiet⟩
def tab_be : Fns := tabT [(18, gVs), (19, gAllT finB), (20, gT gIn), (21, gT g_eat), (8, gIsB), (17, gLsT)]
theorem tabok_be : ∀ f, FnT Try.prog f (tab_be f) := (tabT_cons (k := 18) ok_vsI (tabT_cons (k := 19) ok_areFinite (tabT_cons (k := 20) ok_within (tabT_cons (k := 21) ok_eat (tabT_cons (k := 8) ok_isb (tabT_cons (k := 17) ok_checkedNumbers tabT_nil))))))
def st_be6 (low1 : Nat) (high2 : Nat) (out12n : Nat) (last13 : Nat) (was14 : Bool) (t51 : Int) (rw0 : Bool) (l0 : List Nat) (rw1 : Bool) (l1 : List Nat) (b2_0n : Nat) (b2_1n : Nat) (l3 : List Nat) : St := ⟨(.any :: .fl .f32 low1 :: .fl .f32 high2 :: .int .i64 9 :: .int .i64 12 :: .ptr 2 0 :: (anys 6 (.sl 3 0 out12n :: .fl .f32 last13 :: .bool was14 :: (anys 35 (.int .i64 9 :: .int .i64 t51 :: (anys 56 [])))))), [.at rw0 (.fl .f32 l0), .at rw1 (.fl .f32 l1), .at true (.as 1 [.sl 0 0 b2_0n, .sl 1 0 b2_1n]), .at true (.fl .f32 l3)]⟩
abbrev kp_be6 : Option (List Nat × List Nat) := some ([1, 2, 3, 4, 5, 12, 13, 14, 50, 51], [10, 11, 12])
noncomputable def lp_be6 {R : Type} (N M : Nat) (s : St) (K : X → St → Option R) : Option R := loopH 2 kp_be6 (fun st K => exec ty tab_be an_be N 2 (atOf [true, true, true, true, false, true, false, false] Try.f10) st K) M s K
noncomputable def bk_be6 {R : Type} (N M : Nat) (K : X → St → Option R) : X → St → Option R := fun x st => match x with | .norm => tidyK 2 (kp_be6.map (·.1)) st fun st => lp_be6 N M st K | x => tidyK 2 (kp_be6.map (·.2)) st fun st => K x st
noncomputable def kt_be6 {R : Type} (N : Nat) (K : X → St → Option R) : X → St → Option R := kBlkR 0 (kSeqR tab_be an_be N 2 (atOf [true, true, true, true, true] Try.f10) (K))
def st_be15 (low1 : Nat) (high2 : Nat) (out12n : Nat) (was14 : Bool) (energy16 : Nat) (is17 : Bool) (a19 : Nat) (b20 : Nat) (t51 : Int) (t77 : Int) (rw0 : Bool) (l0 : List Nat) (rw1 : Bool) (l1 : List Nat) (b2_0n : Nat) (b2_1n : Nat) (l3 : List Nat) : St := ⟨(.any :: .fl .f32 low1 :: .fl .f32 high2 :: .int .i64 9 :: .int .i64 12 :: .ptr 2 0 :: (anys 6 (.sl 3 0 out12n :: .any :: .bool was14 :: .any :: .fl .f32 energy16 :: .bool is17 :: .any :: .fl .f32 a19 :: .fl .f32 b20 :: (anys 29 (.int .i64 9 :: .int .i64 t51 :: (anys 24 (.int .i64 12 :: .int .i64 t77 :: (anys 30 [])))))))), [.at rw0 (.fl .f32 l0), .at rw1 (.fl .f32 l1), .at true (.as 1 [.sl 0 0 b2_0n, .sl 1 0 b2_1n]), .at true (.fl .f32 l3)]⟩
abbrev kp_be15 : Option (List Nat × List Nat) := some ([1, 2, 3, 4, 5, 12, 14, 16, 17, 19, 20, 50, 51, 76, 77], [1, 2, 3, 4, 5, 10, 11, 12, 16, 17, 19, 50, 51])
noncomputable def lp_be15 {R : Type} (N M : Nat) (s : St) (K : X → St → Option R) : Option R := loopH 2 kp_be15 (fun st K => exec ty tab_be an_be N 2 (atOf [true, true, true, true, false, true, false, false, true, true, false, false, true, true, true, true, false, true, false, true, false, true, false, false] Try.f10) st K) M s K
noncomputable def kt_be15 {R : Type} (N : Nat) (K : X → St → Option R) : X → St → Option R := kBlkR 2 (kSeqR tab_be an_be N 2 (atOf [true, true, true, true, false, true, false, false, true, true, false, false, true, true, true, true, false, true, false, true, true] Try.f10) (kSeqR tab_be an_be N 2 (atOf [true, true, true, true, false, true, false, false, true, true, false, false, true, true, true, true, true] Try.f10) (kBlkR 1 (kSeqR tab_be an_be N 2 (atOf [true, true, true, true, false, true, false, false, true, true, true] Try.f10) (K)))))
def en_be6_0 (out12n : Nat) (rw0 : Bool) (l0 : List Nat) (rw1 : Bool) (l1 : List Nat) (l2 : List Nat) : St := ⟨(anys 10 (.nil :: .bool false :: .sl 2 0 out12n :: (anys 95 []))), [.at rw0 (.fl .f32 l0), .at rw1 (.fl .f32 l1), .at true (.fl .f32 l2)]⟩
def en_be6_1 (out12n : Nat) (rw0 : Bool) (l0 : List Nat) (rw1 : Bool) (l1 : List Nat) (l2 : List Nat) : St := ⟨(anys 12 (.sl 2 0 out12n :: (anys 95 []))), [.at rw0 (.fl .f32 l0), .at rw1 (.fl .f32 l1), .at true (.fl .f32 l2)]⟩
def en_be15_0 (low1 : Nat) (high2 : Nat) (out12n : Nat) (energy16 : Nat) (is17 : Bool) (a19 : Nat) (t51 : Int) (rw0 : Bool) (l0 : List Nat) (rw1 : Bool) (l1 : List Nat) (b2_0n : Nat) (b2_1n : Nat) (l3 : List Nat) : St := ⟨(.any :: .fl .f32 low1 :: .fl .f32 high2 :: .int .i64 9 :: .int .i64 12 :: .ptr 2 0 :: .any :: .any :: .any :: .any :: .nil :: .bool false :: .sl 3 0 out12n :: .any :: .any :: .any :: .fl .f32 energy16 :: .bool is17 :: .any :: .fl .f32 a19 :: (anys 30 (.int .i64 9 :: .int .i64 t51 :: (anys 56 [])))), [.at rw0 (.fl .f32 l0), .at rw1 (.fl .f32 l1), .at true (.as 1 [.sl 0 0 b2_0n, .sl 1 0 b2_1n]), .at true (.fl .f32 l3)]⟩
def en_be15_1 (low1 : Nat) (high2 : Nat) (out12n : Nat) (energy16 : Nat) (is17 : Bool) (a19 : Nat) (t51 : Int) (rw0 : Bool) (l0 : List Nat) (rw1 : Bool) (l1 : List Nat) (b2_0n : Nat) (b2_1n : Nat) (l3 : List Nat) : St := ⟨(.any :: .fl .f32 low1 :: .fl .f32 high2 :: .int .i64 9 :: .int .i64 12 :: .ptr 2 0 :: (anys 6 (.sl 3 0 out12n :: .any :: .any :: .any :: .fl .f32 energy16 :: .bool is17 :: .any :: .fl .f32 a19 :: (anys 30 (.int .i64 9 :: .int .i64 t51 :: (anys 56 [])))))), [.at rw0 (.fl .f32 l0), .at rw1 (.fl .f32 l1), .at true (.as 1 [.sl 0 0 b2_0n, .sl 1 0 b2_1n]), .at true (.fl .f32 l3)]⟩
theorem run_be (N : Nat) (n : Nat) (m : Nat) (a : Nat) (b : Nat) (r0 : Bool) (l0 : List Nat) (r1 : Bool) (l1 : List Nat) : run ty tab_be an_be N Try.f10 [.g [.sl 0 0 n, .sl 1 0 m], .fl .f32 a, .fl .f32 b, .int .i64 9, .int .i64 12] [.at r0 (.fl .f32 l0), .at r1 (.fl .f32 l1)]
    = (match decide (l0.length = n ∧ n < 2147483648 ∧ l1.length = m ∧ m < 2147483648) with | true => (match !(vsB l0 l1) with | true => some (.tup [.a (.nil), .a (.bool false)], [.at r0 (.fl .f32 l0), .at r1 (.fl .f32 l1)]) | false => (match !(finB a && (finB b && true)) with | true => some (.tup [.a (.nil), .a (.bool false)], [.at r0 (.fl .f32 l0), .at r1 (.fl .f32 l1)]) | false => (match gtB a b || eqB a b with | true => some (.tup [.a (.nil), .a (.bool false)], [.at r0 (.fl .f32 l0), .at r1 (.fl .f32 l1)]) | false => lp_be6 N N (st_be6 a b 0 0 false 0 r0 l0 r1 l1 n m ([] : List Nat)) (kt_be6 N (kEnd Try.f10 2))))) | false => none) := by
  kernel_rfl
theorem step_be6 {R : Type} (N M : Nat) (K : X → St → Option R) (low1 : Nat) (high2 : Nat) (out12n : Nat) (last13 : Nat) (was14 : Bool) (t51 : Int) (rw0 : Bool) (l0 : List Nat) (rw1 : Bool) (l1 : List Nat) (b2_0n : Nat) (b2_1n : Nat) (l3 : List Nat) : lp_be6 N (M + 1) (st_be6 low1 high2 out12n last13 was14 t51 rw0 l0 rw1 l1 b2_0n b2_1n l3) K
    = (match decide ((t51 : Int) < 9) with | true => (match shO b2_0n b2_1n l0 l1 (v_eat low1 high2 t51 9) with | true => (match !(isO l0 l1 (v_eat low1 high2 t51 9)) with | true => K .ret (en_be6_0 out12n rw0 l0 rw1 l1 l3) | false => (match decide ((t51 : Int) > 0) with | true => (match !((isB l0 l1 (v_eat low1 high2 t51 9)) == was14) with | true => lp_be15 N N (st_be15 low1 high2 out12n was14 (v_eat low1 high2 t51 9) (isB l0 l1 (v_eat low1 high2 t51 9)) last13 (v_eat low1 high2 t51 9) t51 0 rw0 l0 rw1 l1 b2_0n b2_1n l3) (kt_be15 N (bk_be6 N M K)) | false => lp_be6 N M (st_be6 low1 high2 out12n (v_eat low1 high2 t51 9) (isB l0 l1 (v_eat low1 high2 t51 9)) (IntKind.i64.wrap (t51 + 1)) rw0 l0 rw1 l1 b2_0n b2_1n l3) K) | false => lp_be6 N M (st_be6 low1 high2 out12n (v_eat low1 high2 t51 9) (isB l0 l1 (v_eat low1 high2 t51 9)) (IntKind.i64.wrap (t51 + 1)) rw0 l0 rw1 l1 b2_0n b2_1n l3) K)) | false => none) | false => K (.exit 0) (en_be6_1 out12n rw0 l0 rw1 l1 l3)) := by
  kernel_rfl
theorem step_be15 {R : Type} (N M : Nat) (K : X → St → Option R) (low1 : Nat) (high2 : Nat) (out12n : Nat) (was14 : Bool) (energy16 : Nat) (is17 : Bool) (a19 : Nat) (b20 : Nat) (t51 : Int) (t77 : Int) (rw0 : Bool) (l0 : List Nat) (rw1 : Bool) (l1 : List Nat) (b2_0n : Nat) (b2_1n : Nat) (l3 : List Nat) : lp_be15 N (M + 1) (st_be15 low1 high2 out12n was14 energy16 is17 a19 b20 t51 t77 rw0 l0 rw1 l1 b2_0n b2_1n l3) K
    = (match decide ((t77 : Int) < 12) with | true => (match shO b2_0n b2_1n l0 l1 (fop .mul .f32 1056964608 (fop .add .f32 a19 b20)) with | true => (match !(isO l0 l1 (fop .mul .f32 1056964608 (fop .add .f32 a19 b20))) with | true => K .ret (en_be15_0 low1 high2 out12n energy16 is17 a19 t51 rw0 l0 rw1 l1 b2_0n b2_1n l3) | false => (match (isB l0 l1 (fop .mul .f32 1056964608 (fop .add .f32 a19 b20))) == was14 with | true => lp_be15 N M (st_be15 low1 high2 out12n was14 energy16 is17 (fop .mul .f32 1056964608 (fop .add .f32 a19 b20)) b20 t51 (IntKind.i64.wrap (t77 + 1)) rw0 l0 rw1 l1 b2_0n b2_1n l3) K | false => lp_be15 N M (st_be15 low1 high2 out12n was14 energy16 is17 a19 (fop .mul .f32 1056964608 (fop .add .f32 a19 b20)) t51 (IntKind.i64.wrap (t77 + 1)) rw0 l0 rw1 l1 b2_0n b2_1n l3) K)) | false => none) | false => K (.exit 2) (en_be15_1 low1 high2 out12n energy16 is17 a19 t51 rw0 l0 rw1 l1 b2_0n b2_1n l3)) := by
  kernel_rfl
theorem end_be6_0 (N : Nat) (out12n : Nat) (rw0 : Bool) (l0 : List Nat) (rw1 : Bool) (l1 : List Nat) (l2 : List Nat) : kt_be6 N (kEnd Try.f10 2) .ret (en_be6_0 out12n rw0 l0 rw1 l1 l2)
    = some (.tup [.a (.nil), .a (.bool false)], [.at rw0 (.fl .f32 l0), .at rw1 (.fl .f32 l1)]) := by
  kernel_rfl
theorem end_be6_1 (N : Nat) (out12n : Nat) (rw0 : Bool) (l0 : List Nat) (rw1 : Bool) (l1 : List Nat) (l2 : List Nat) : kt_be6 N (kEnd Try.f10 2) (.exit 0) (en_be6_1 out12n rw0 l0 rw1 l1 l2)
    = (match decide (l2.length = out12n ∧ out12n < 2147483648) with | true => (match l2.all finB with | true => some (.tup [.a (.sl 2 0 out12n), .a (.bool true)], [.at rw0 (.fl .f32 l0), .at rw1 (.fl .f32 l1), .at true (.fl .f32 l2)]) | false => some (.tup [.a (.nil), .a (.bool false)], [.at rw0 (.fl .f32 l0), .at rw1 (.fl .f32 l1)])) | false => none) := by
  kernel_rfl
theorem end_be15_0 {R : Type} (N M : Nat) (K : X → St → Option R) (low1 : Nat) (high2 : Nat) (out12n : Nat) (energy16 : Nat) (is17 : Bool) (a19 : Nat) (t51 : Int) (rw0 : Bool) (l0 : List Nat) (rw1 : Bool) (l1 : List Nat) (b2_0n : Nat) (b2_1n : Nat) (l3 : List Nat) : kt_be15 N (bk_be6 N M K) .ret (en_be15_0 low1 high2 out12n energy16 is17 a19 t51 rw0 l0 rw1 l1 b2_0n b2_1n l3)
    = K .ret (en_be6_0 out12n rw0 l0 rw1 l1 l3) := by
  kernel_rfl
theorem end_be15_1 {R : Type} (N M : Nat) (K : X → St → Option R) (low1 : Nat) (high2 : Nat) (out12n : Nat) (energy16 : Nat) (is17 : Bool) (a19 : Nat) (t51 : Int) (rw0 : Bool) (l0 : List Nat) (rw1 : Bool) (l1 : List Nat) (b2_0n : Nat) (b2_1n : Nat) (l3 : List Nat) : kt_be15 N (bk_be6 N M K) (.exit 2) (en_be15_1 low1 high2 out12n energy16 is17 a19 t51 rw0 l0 rw1 l1 b2_0n b2_1n l3)
    = (match apok true out12n 1 l3.length 1 (out12n + 1) 4 with | true => lp_be6 N M (st_be6 low1 high2 (out12n + 1) energy16 is17 (IntKind.i64.wrap (t51 + 1)) rw0 l0 rw1 l1 b2_0n b2_1n (l3 ++ [a19])) K | false => none) := by
  kernel_rfl
noncomputable def pdec (P : Prop) : Bool := @decide P (Classical.propDecidable P)
theorem pdec_iff {P : Prop} : pdec P = true ↔ P := by unfold pdec; simp
def eG (a b i : Nat) : Nat := v_eat a b (i : Int) 9
def mid (a b : Nat) : Nat := fop .mul .f32 1056964608 (fop .add .f32 a b)
def bisV (l0 l1 : List Nat) (was : Bool) : Nat → Nat → Nat → Option Nat
  | 0, a, _ => some a
  | t + 1, a, b => match isO l0 l1 (mid a b) with
    | false => none
    | true => match isB l0 l1 (mid a b) == was with
      | true => bisV l0 l1 was t (mid a b) b
      | false => bisV l0 l1 was t a (mid a b)
def beL (l0 l1 : List Nat) (a b : Nat) : Nat → Nat → Bool → Nat → List Nat → Option (List Nat)
  | 0, _, _, _, out => some out
  | t + 1, i, was, last, out => match isO l0 l1 (eG a b i) with
    | false => none
    | true => match decide (((i : Nat) : Int) > 0) with
      | false => beL l0 l1 a b t (i + 1) (isB l0 l1 (eG a b i)) (eG a b i) out
      | true => match isB l0 l1 (eG a b i) == was with
        | true => beL l0 l1 a b t (i + 1) (isB l0 l1 (eG a b i)) (eG a b i) out
        | false => match bisV l0 l1 was 12 last (eG a b i) with
          | none => none
          | some x => beL l0 l1 a b t (i + 1) (isB l0 l1 (eG a b i)) (eG a b i) (out ++ [x])
structure EQ (l0 l1 : List Nat) (a b : Nat) (Q : Nat → Nat → Prop) : Prop where
  grid : ∀ i, i < 9 → Q 0 (eG a b i)
  down : ∀ t x, Q t x → Q (t + 1) x
  mids : ∀ t x y, Q t x → Q t y → Q (t + 1) (mid x y)
  cell : ∀ t x, t ≤ 12 → Q t x → cellO l0 l1 x = true
theorem beL_len (l0 l1 : List Nat) (a b : Nat) : ∀ t i was last out o, beL l0 l1 a b t i was last out = some o → o.length ≤ out.length + t
  | 0, i, was, last, out, o, h => by cases h; omega
  | t + 1, i, was, last, out, o, h => by
    unfold beL at h
    split at h
    · cases h
    · split at h
      · have := beL_len l0 l1 a b t _ _ _ _ _ h; omega
      · split at h
        · have := beL_len l0 l1 a b t _ _ _ _ _ h; omega
        · split at h
          · cases h
          · have := beL_len l0 l1 a b t _ _ _ _ _ h
            rw [List.length_append, List.length_singleton] at this
            omega
def beA (l0 l1 : List Nat) (a b : Nat) : Option (List Nat) := beL l0 l1 a b 9 0 false 0 []
def beOk (l0 l1 : List Nat) (a b : Nat) : Bool := vsB l0 l1 && ((finB a && (finB b && true)) && (!(gtB a b || eqB a b) && (match beA l0 l1 a b with | some o => o.all finB | none => false)))
def beV (l0 l1 : List Nat) (a b : Nat) : List Nat := (beA l0 l1 a b).getD []
theorem beV_len (l0 l1 : List Nat) (a b : Nat) : (beV l0 l1 a b).length < 10 := by
  unfold beV beA
  cases h : beL l0 l1 a b 9 0 false 0 [] with
  | none => decide
  | some o => have := beL_len l0 l1 a b 9 0 false 0 [] o h; simp at this ⊢; omega
noncomputable def gBe : GT := fun vs h => match vs, h with
  | [.g [.sl 0 0 n, .sl 1 0 m], .fl .f32 a, .fl .f32 b, .int .i64 9, .int .i64 12], [.at r0 (.fl .f32 l0), .at r1 (.fl .f32 l1)] => .ite (decide (l0.length = n ∧ n < 2147483648 ∧ l1.length = m ∧ m < 2147483648) && pdec (∃ Q, EQ l0 l1 a b Q)) (.ite (beOk l0 l1 a b) (.ret (.tup [.a (.sl 2 0 (beV l0 l1 a b).length), .a (.bool true)]) [.at r0 (.fl .f32 l0), .at r1 (.fl .f32 l1), .at true (.fl .f32 (beV l0 l1 a b))]) (.ret (.tup [.a .nil, .a (.bool false)]) [.at r0 (.fl .f32 l0), .at r1 (.fl .f32 l1)])) .no
  | _, _ => .no
theorem w12 {j : Nat} (h : j < 12) : IntKind.i64.wrap ((j : Int) + 1) = ((j + 1 : Nat) : Int) := wr (by omega)
theorem lt_lit {j k : Nat} (h : j < k) : decide (((j : Nat) : Int) < ((k : Nat) : Int)) = true := dlt h
theorem in15 {R : Type} (M : Nat) (K : X → St → Option R) (low high o : Nat) (was : Bool) (e : Nat) (is : Bool) (i : Int) (r0 : Bool) (l0 : List Nat) (r1 : Bool) (l1 : List Nat) (out : List Nat) {Q : Nat → Nat → Prop} (hQ : EQ l0 l1 low high Q) (Z : Option R)
    (hZ : ∀ a, K .ret (en_be15_0 low high o e is a i r0 l0 r1 l1 l0.length l1.length out) = Z) : ∀ t j a b, j + t = 12 → Q j a → Q j b →
    lp_be15 40 (M + t + 1) (st_be15 low high o was e is a b i ((j : Nat) : Int) r0 l0 r1 l1 l0.length l1.length out) K = match bisV l0 l1 was t a b with | none => Z | some x => K (.exit 2) (en_be15_1 low high o e is x i r0 l0 r1 l1 l0.length l1.length out)
  | 0, j, a, b, hj, ha, hb => by
    have : j = 12 := by omega
    subst this
    rw [step_be15]
    rfl
  | t + 1, j, a, b, hj, ha, hb => by
    have hc := hQ.cell (j + 1) (mid a b) (by omega) (hQ.mids j a b ha hb)
    have hs : shO l0.length l1.length l0 l1 (mid a b) = true := by unfold shO; rw [hc, decide_eq_true (show l0.length = l0.length ∧ l1.length = l1.length from ⟨rfl, rfl⟩)]; rfl
    rw [show M + (t + 1) + 1 = (M + t + 1) + 1 by omega, step_be15]
    rw [show decide (((j : Nat) : Int) < 12) = true from lt_lit (k := 12) (by omega)]
    unfold bisV
    show (match shO l0.length l1.length l0 l1 (mid a b) with | true => _ | false => _) = _
    rw [hs]
    show (match !(isO l0 l1 (mid a b)) with | true => _ | false => (match (isB l0 l1 (mid a b)) == was with | true => _ | false => _)) = _
    cases isO l0 l1 (mid a b)
    · exact hZ a
    · rw [w12 (show j < 12 by omega)]
      cases isB l0 l1 (mid a b) == was
      · exact in15 M K low high o was e is i r0 l0 r1 l1 out hQ Z hZ t (j + 1) a (mid a b) (by omega) (hQ.down _ _ ha) (hQ.mids j a b ha hb)
      · exact in15 M K low high o was e is i r0 l0 r1 l1 out hQ Z hZ t (j + 1) (mid a b) b (by omega) (hQ.mids j a b ha hb) (hQ.down _ _ hb)
theorem out6 {R : Type} (M : Nat) (K : X → St → Option R) (low high : Nat) (r0 : Bool) (l0 : List Nat) (r1 : Bool) (l1 : List Nat) {Q : Nat → Nat → Prop} (hQ : EQ l0 l1 low high Q) (Z : Option R)
    (hZ : ∀ out : List Nat, K .ret (en_be6_0 out.length r0 l0 r1 l1 out) = Z) : ∀ t i was last (out : List Nat), i + t = 9 → (i = 0 ∨ Q 0 last) → out.length ≤ i →
    lp_be6 40 (M + t + 1) (st_be6 low high out.length last was ((i : Nat) : Int) r0 l0 r1 l1 l0.length l1.length out) K = match beL l0 l1 low high t i was last out with | none => Z | some o => K (.exit 0) (en_be6_1 o.length r0 l0 r1 l1 o)
  | 0, i, was, last, out, hi, hl, ho => by
    have : i = 9 := by omega
    subst this
    rw [step_be6]
    rfl
  | t + 1, i, was, last, out, hi, hl, ho => by
    have hg := hQ.grid i (by omega)
    have hc := hQ.cell 0 _ (by omega) hg
    have hs : shO l0.length l1.length l0 l1 (eG low high i) = true := by unfold shO; rw [hc, decide_eq_true (show l0.length = l0.length ∧ l1.length = l1.length from ⟨rfl, rfl⟩)]; rfl
    have hw : IntKind.i64.wrap (((i : Nat) : Int) + 1) = ((i + 1 : Nat) : Int) := wr (by omega)
    rw [show M + (t + 1) + 1 = (M + t + 1) + 1 by omega, step_be6, hw]
    rw [show decide (((i : Nat) : Int) < 9) = true from lt_lit (k := 9) (by omega)]
    unfold beL
    show (match shO l0.length l1.length l0 l1 (eG low high i) with | true => (match !(isO l0 l1 (eG low high i)) with | true => _ | false => (match decide (((i : Nat) : Int) > 0) with | true => (match !(isB l0 l1 (eG low high i) == was) with | true => lp_be15 40 40 (st_be15 low high out.length was (eG low high i) (isB l0 l1 (eG low high i)) last (eG low high i) ((i : Nat) : Int) ((0 : Nat) : Int) r0 l0 r1 l1 l0.length l1.length out) (kt_be15 40 (bk_be6 40 (M + t + 1) K)) | false => lp_be6 40 (M + t + 1) (st_be6 low high out.length (eG low high i) (isB l0 l1 (eG low high i)) ((i + 1 : Nat) : Int) r0 l0 r1 l1 l0.length l1.length out) K) | false => lp_be6 40 (M + t + 1) (st_be6 low high out.length (eG low high i) (isB l0 l1 (eG low high i)) ((i + 1 : Nat) : Int) r0 l0 r1 l1 l0.length l1.length out) K)) | false => none) = _
    rw [hs]
    dsimp only
    cases isO l0 l1 (eG low high i)
    · exact hZ out
    · dsimp only [Bool.not_true]
      have go := fun o' ho' => out6 M K low high r0 l0 r1 l1 hQ Z hZ t (i + 1) (isB l0 l1 (eG low high i)) (eG low high i) o' (by omega) (.inr hg) ho'
      cases hz : decide (((i : Nat) : Int) > 0)
      · exact go out (by omega)
      · have hi0 : i ≠ 0 := by have := of_decide_eq_true hz; omega
        have hlast := hl.resolve_left hi0
        dsimp only
        cases isB l0 l1 (eG low high i) == was
        · dsimp only [Bool.not_false]
          have h15 := in15 27 (kt_be15 40 (bk_be6 40 (M + t + 1) K)) low high out.length was (eG low high i) (isB l0 l1 (eG low high i)) ((i : Nat) : Int) r0 l0 r1 l1 out hQ Z (fun a => by rw [end_be15_0]; exact hZ out) 12 0 last (eG low high i) rfl hlast hg
          refine Eq.trans h15 ?_
          cases bisV l0 l1 was 12 last (eG low high i) with
          | none => rfl
          | some x =>
            dsimp only
            rw [end_be15_1, apc rfl (show out.length < 2147483648 by omega) (by decide), hw]
            have := go (out ++ [x]) (by rw [List.length_append, List.length_singleton]; omega)
            rw [List.length_append, List.length_singleton] at this
            exact this
        · exact go out (by omega)
theorem ok_be : FnT Try.prog 10 gBe := by
  refine fnT tabok_be Try.func10 rfl rfl an_be fun vs h v h' e => ⟨40, ?_⟩
  unfold gBe at e
  split at e
  case h_2 => exact (T.no_inv e).elim
  rename_i n m a b r0 l0 r1 l1
  obtain ⟨hd, e2⟩ := T.pre_inv e
  clear e
  rw [Bool.and_eq_true] at hd
  obtain ⟨hq, hQ⟩ := hd
  obtain ⟨Q, hQ⟩ := pdec_iff.1 hQ
  obtain ⟨rfl, hb, rfl, hb2⟩ := of_decide_eq_true hq
  refine Eq.trans (run_be 40 l0.length l1.length a b r0 l0 r1 l1) (Eq.trans ?_ e2)
  clear e2
  rw [T.run_ite, T.run_ret, T.run_ret, hq]
  unfold beOk
  cases vsB l0 l1
  · rfl
  cases (finB a && (finB b && true))
  · rfl
  cases gtB a b || eqB a b
  case true => rfl
  dsimp only [Bool.not_true, Bool.not_false]
  have ho := out6 30 (kt_be6 40 (kEnd Try.f10 2)) a b r0 l0 r1 l1 hQ _ (fun out => end_be6_0 40 out.length r0 l0 r1 l1 out) 9 0 false 0 [] rfl (.inl rfl) (Nat.zero_le _)
  refine Eq.trans ho ?_
  show _ = match true && (true && (true && (match beA l0 l1 a b with | some o => o.all finB | none => false))) with | true => _ | false => _
  unfold beV beA
  cases hB : beL l0 l1 a b 9 0 false 0 [] with
  | none => rfl
  | some o =>
    have hl := beL_len l0 l1 a b 9 0 false 0 [] o hB
    have hl : o.length < 2147483648 := by simp at hl; omega
    dsimp only
    rw [end_be6_1, decide_eq_true (show o.length = o.length ∧ o.length < 2147483648 from ⟨rfl, hl⟩)]
    cases o.all finB <;> rfl
end Go.Proofs.Ytdbmbelllghdcaa.Ab

namespace Go.Proofs.Ytdbmbelllghdcaa.Ab
set_option linter.unusedVariables false
set_option linter.unusedSimpArgs false
open Go
def longB (n m : Nat) : Bool := decide ((n : Int) > 48) || decide ((m : Int) > 48)
def atOk (n : Nat) (l : List Int) (i : Int) : Bool := decide (l.length = n ∧ n < 2147483648 ∧ 0 ≤ i ∧ i < 1000)
def atF (l : List Int) (i k : Int) : Int := match decide (k ≤ 1) with
  | true => 0
  | false => match l[i.toNat]? with
    | some e => Int.tmod (IntKind.i64.wrap e) k
    | none => 0
def bytesB (l : List Int) : Bool := l.all (fun e => decide (0 ≤ e ∧ e < 256))
theorem atF_range {l : List Int} {i k : Int} (hb : bytesB l = true) (hi : 0 ≤ i) (hi2 : i < 1000) (hk : 1 ≤ k) : 0 ≤ atF l i k ∧ atF l i k < k := by
  unfold atF
  by_cases h1 : k ≤ 1
  · rw [decide_eq_true h1]
    show 0 ≤ (0 : Int) ∧ (0 : Int) < k
    omega
  · rw [decide_eq_false h1]
    dsimp only
    cases he : l[i.toNat]? with
    | some e =>
      obtain ⟨e0, e1⟩ := of_decide_eq_true (List.all_eq_true.mp hb e (List.mem_of_getElem? he))
      show 0 ≤ Int.tmod (IntKind.i64.wrap e) k ∧ Int.tmod (IntKind.i64.wrap e) k < k
      rw [wrap_z (by omega) (by omega), Int.tmod_eq_emod_of_nonneg e0]
      exact ⟨Int.emod_nonneg _ (by omega), Int.emod_lt_of_pos _ (by omega)⟩
    | none =>
      show 0 ≤ (0 : Int) ∧ (0 : Int) < k
      omega
def tab_lgA : Fns := tabT []
theorem tabok_lgA : ∀ f, FnT Try.prog f (tab_lgA f) := tabT_nil
theorem run_lgA (N : Nat) (n : Nat) (m : Nat) (r : Bool) (l : List Int) (q : Bool) (l' : List Int) : run ty tab_lgA ann0 N Try.f4 [.sl 0 0 n, .sl 1 0 m] [.at r (.int .u8 l), .at q (.int .u8 l')]
    = (match decide ((((n : Nat) : Int) : Int) > 48) with | true => some (.bool true, [.at r (.int .u8 l), .at q (.int .u8 l')]) | false => some (.bool (decide ((((m : Nat) : Int) : Int) > 48)), [.at r (.int .u8 l), .at q (.int .u8 l')])) := by
  kernel_rfl
def tab_lgB : Fns := tabT []
theorem tabok_lgB : ∀ f, FnT Try.prog f (tab_lgB f) := tabT_nil
theorem run_lgB (N : Nat) (n : Nat) (r : Bool) (l : List Int) : run ty tab_lgB ann0 N Try.f4 [.sl 0 0 n, .nil] [.at r (.int .u8 l)]
    = (match decide ((((n : Nat) : Int) : Int) > 48) with | true => some (.bool true, [.at r (.int .u8 l)]) | false => some (.bool false, [.at r (.int .u8 l)])) := by
  kernel_rfl
def tab_lgC : Fns := tabT []
theorem tabok_lgC : ∀ f, FnT Try.prog f (tab_lgC f) := tabT_nil
theorem run_lgC (N : Nat) (m : Nat) (r : Bool) (l : List Int) : run ty tab_lgC ann0 N Try.f4 [.nil, .sl 0 0 m] [.at r (.int .u8 l)]
    = some (.bool (decide ((((m : Nat) : Int) : Int) > 48)), [.at r (.int .u8 l)]) := by
  kernel_rfl
def tab_lgD : Fns := tabT []
theorem tabok_lgD : ∀ f, FnT Try.prog f (tab_lgD f) := tabT_nil
theorem run_lgD (N : Nat)  : run ty tab_lgD ann0 N Try.f4 [.nil, .nil] []
    = some (.bool false, []) := by
  kernel_rfl
def gLong : GT := fun vs h => match vs, h with
  | [.sl 0 0 n, .sl 1 0 m], [.at r (.int .u8 l), .at q (.int .u8 l')] => .ret (.bool (longB n m)) [.at r (.int .u8 l), .at q (.int .u8 l')]
  | [.sl 0 0 n, .nil], [.at r (.int .u8 l)] => .ret (.bool (longB n 0)) [.at r (.int .u8 l)]
  | [.nil, .sl 0 0 m], [.at r (.int .u8 l)] => .ret (.bool (longB 0 m)) [.at r (.int .u8 l)]
  | [.nil, .nil], [] => .ret (.bool (longB 0 0)) []
  | _, _ => .no
theorem ok_Long : FnT Try.prog 4 gLong := by
  intro vs hp v h' e
  unfold gLong at e
  split at e
  · obtain ⟨rfl, rfl⟩ := T.ret_inv e
    refine FnT.runs tabok_lgA Try.func4 rfl rfl ann0 0 _ _ _ _ ?_
    rw [T.run_of]
    refine Eq.trans (run_lgA 0 _ _ _ _ _ _) ?_
    unfold longB
    rename_i n m r q l l'
    cases decide ((n : Int) > 48) <;> rfl
  · obtain ⟨rfl, rfl⟩ := T.ret_inv e
    refine FnT.runs tabok_lgB Try.func4 rfl rfl ann0 0 _ _ _ _ ?_
    rw [T.run_of]
    refine Eq.trans (run_lgB 0 _ _ _) ?_
    unfold longB
    rename_i n r l
    cases decide ((n : Int) > 48) <;> rfl
  · obtain ⟨rfl, rfl⟩ := T.ret_inv e
    refine FnT.runs tabok_lgC Try.func4 rfl rfl ann0 0 _ _ _ _ ?_
    rw [T.run_of]
    refine Eq.trans (run_lgC 0 _ _ _) ?_
    unfold longB
    rfl
  · obtain ⟨rfl, rfl⟩ := T.ret_inv e
    refine FnT.runs tabok_lgD Try.func4 rfl rfl ann0 0 _ _ _ _ ?_
    rw [T.run_of]
    refine Eq.trans (run_lgD 0 ) ?_
    unfold longB
    rfl
  · exact (T.no_inv e).elim
def tab_atA : Fns := tabT []
theorem tabok_atA : ∀ f, FnT Try.prog f (tab_atA f) := tabT_nil
theorem run_atA (N : Nat) (n : Nat) (i : Int) (k : Int) (rw : Bool) (l : List Int) : run ty tab_atA ann0 N Try.f6 [.sl 0 0 n, .int .i64 i, .int .i64 k] [.at rw (.int .u8 l)]
    = (match decide ((k : Int) ≤ 1) with | true => some (.int .i64 0, [.at rw (.int .u8 l)]) | false => (match decide ((i : Int) ≥ ((n : Nat) : Int)) with | true => some (.int .i64 0, [.at rw (.int .u8 l)]) | false => (match decide (0 ≤ (i : Int) ∧ (i : Int) < ((n : Nat) : Int)) with | true => (match l[0 + (i).toNat * 1]? with | some e1 => (match decide (k = 0) with | true => none | false => some (.int .i64 (Int.tmod (IntKind.i64.wrap e1) k), [.at rw (.int .u8 l)])) | none => none) | false => none))) := by
  kernel_rfl
def tab_atB : Fns := tabT []
theorem tabok_atB : ∀ f, FnT Try.prog f (tab_atB f) := tabT_nil
theorem run_atB (N : Nat) (i : Int) (k : Int) : run ty tab_atB ann0 N Try.f6 [.nil, .int .i64 i, .int .i64 k] []
    = (match decide ((k : Int) ≤ 1) with | true => some (.int .i64 0, []) | false => (match decide ((i : Int) ≥ 0) with | true => some (.int .i64 0, []) | false => none)) := by
  kernel_rfl
def gAt : GT := fun vs h => match vs, h with
  | [.sl 0 0 n, .int .i64 i, .int .i64 k], [.at rw (.int .u8 l)] => .ite (atOk n l i) (.ret (.int .i64 (atF l i k)) [.at rw (.int .u8 l)]) .no
  | [.nil, .int .i64 i, .int .i64 k], [] => .ite (atOk 0 [] i) (.ret (.int .i64 (atF [] i k)) []) .no
  | _, _ => .no
theorem ok_At : FnT Try.prog 6 gAt := by
  intro vs hp v h' e
  unfold gAt at e
  split at e
  · rename_i n i k rw l
    obtain ⟨hd, e⟩ := T.pre_inv e
    obtain ⟨rfl, rfl⟩ := T.ret_inv e
    obtain ⟨hn, hn2, hi, hi2⟩ := of_decide_eq_true hd
    refine FnT.runs tabok_atA Try.func6 rfl rfl ann0 0 _ _ _ _ ?_
    rw [T.run_of]
    refine Eq.trans (run_atA 0 n i k rw l) ?_
    unfold atF
    by_cases h1 : k ≤ 1
    · rw [decide_eq_true h1]
    · rw [decide_eq_false h1]
      by_cases h2 : i < (n : Int)
      · have hx : l[i.toNat]? = some l[i.toNat] := List.getElem?_eq_getElem (by omega)
        rw [decide_eq_false (show ¬ i ≥ (n : Int) by omega), decide_eq_true (show 0 ≤ i ∧ i < (n : Int) from ⟨hi, h2⟩), show 0 + i.toNat * 1 = i.toNat by omega, hx]
        dsimp only
        rw [decide_eq_false (show ¬ k = 0 by omega)]
      · have hx : l[i.toNat]? = none := List.getElem?_eq_none (by omega)
        rw [decide_eq_true (show i ≥ (n : Int) by omega), hx]
  · rename_i i k
    obtain ⟨hd, e⟩ := T.pre_inv e
    obtain ⟨rfl, rfl⟩ := T.ret_inv e
    obtain ⟨hn, hn2, hi, hi2⟩ := of_decide_eq_true hd
    refine FnT.runs tabok_atB Try.func6 rfl rfl ann0 0 _ _ _ _ ?_
    rw [T.run_of]
    refine Eq.trans (run_atB 0 i k) ?_
    unfold atF
    by_cases h1 : k ≤ 1
    · rw [decide_eq_true h1]
    · rw [decide_eq_false h1, decide_eq_true (show i ≥ 0 by omega), List.getElem?_nil]
  · exact (T.no_inv e).elim
def r8G (x y : Nat) : Nat := fmax .f64 (fop .sub .f64 (up x) (up y)) (fop .sub .f64 (up y) (up x))
def gG8 : G := fun vs h => match vs, h with | [.fl .f32 x, .fl .f32 y], [] => some (.fl .f64 (r8G x y), []) | _, _ => none
def tab_r8g : Fns := tabT []
theorem tabok_r8g : ∀ f, FnT Try.prog f (tab_r8g f) := tabT_nil
theorem run_r8g (N : Nat) (x : Nat) (y : Nat) : run ty tab_r8g ann0 N Try.f9 [.fl .f32 x, .fl .f32 y] []
    = (match fconv .f32 x .f64 with | some c1 => (match fconv .f32 y .f64 with | some c2 => (match fconv .f32 y .f64 with | some c3 => (match fconv .f32 x .f64 with | some c4 => some (.fl .f64 (fmax .f64 (fop .sub .f64 c1 c2) (fop .sub .f64 c3 c4)), []) | none => none) | none => none) | none => none) | none => none) := by
  kernel_rfl
theorem ok_r8g : FnT Try.prog 9 (gT gG8) := by
  refine fnT tabok_r8g Try.func9 rfl rfl ann0 fun vs h v h' e => ⟨0, ?_⟩
  rw [T.run_of] at e
  unfold gG8 at e
  split at e
  case h_2 => cases e
  rename_i x y
  cases e
  refine Eq.trans (run_r8g 0 x y) ?_
  simp only [fconv_eq]
  rfl
end Go.Proofs.Ytdbmbelllghdcaa.Ab

namespace Go.Proofs.Ytdbmbelllghdcaa.Ab
set_option linter.unusedVariables false
set_option linter.unusedSimpArgs false
open Go
def nxB (l : List Int) (a : Int) : Int := match decide (a < ((l.length : Nat) : Int)) with | true => IntKind.i64.wrap (l.getD a.toNat 0) | false => 0
def nxS (l : List Int) (a s : Int) : Int := IntKind.u64.wrap ((IntKind.u64.wrap ((IntKind.u64.wrap (s * 6364136223846793005)) + (IntKind.u64.wrap (nxB l a)))) + 1442695040888963407)
def nxV (l : List Int) (a s : Int) : Int := match decide (a + 1 ≤ ((l.length : Nat) : Int)) with | true => nxB l a | false => IntKind.i64.wrap (IntKind.u64.wrap (BitVec.ofInt 64 (Int.fdiv (nxS l a s) (2 ^ 40)) &&& BitVec.ofInt 64 255).toNat)
theorem nx_range {l : List Int} {a s : Int} (hb : bytesB l = true) (h0 : 0 ≤ a) : 0 ≤ nxV l a s ∧ nxV l a s < 256 := by
  unfold nxV
  cases hd : decide (a + 1 ≤ ((l.length : Nat) : Int)) with
  | true =>
    have hd := of_decide_eq_true hd
    dsimp only
    unfold nxB
    rw [decide_eq_true (show a < ((l.length : Nat) : Int) by omega)]
    dsimp only
    have hlt : a.toNat < l.length := by omega
    have hm : l.getD a.toNat 0 ∈ l := by rw [List.getD_eq_getElem?_getD, List.getElem?_eq_getElem hlt, Option.getD_some]; exact List.getElem_mem hlt
    obtain ⟨e0, e1⟩ := of_decide_eq_true (List.all_eq_true.mp hb _ hm)
    rw [wrap_z (by omega) (by omega)]
    exact ⟨e0, e1⟩
  | false =>
    dsimp only
    generalize BitVec.ofInt 64 (Int.fdiv (nxS l a s) (2 ^ 40)) = x
    have h1 : (x &&& BitVec.ofInt 64 255).toNat ≤ 255 := by
      rw [BitVec.toNat_and]
      exact Nat.and_le_right
    generalize (x &&& BitVec.ofInt 64 255).toNat = t at h1 ⊢
    have h2 : IntKind.u64.wrap ((t : Nat) : Int) = ((t : Nat) : Int) := by
      simp only [IntKind.wrap, IntKind.signed, IntKind.bits]
      first | omega | (simp; omega)
    rw [h2, wrap_z (by omega) (by omega)]
    omega
def srOk (n : Nat) (l : List Int) (a : Int) : Bool := decide (l.length = n ∧ n < 2147483648 ∧ 0 ≤ a ∧ a < 1000)
def gNx : GT := fun vs h => match vs, h with
  | [.ptr 0 0], [.at true (.as 1 [.sl 1 0 n, .int .i64 a, .int .u64 s]), .at rw (.int .u8 l)] => .ite (srOk n l a) (.ret (.int .i64 (nxV l a s)) [.at true (.as 1 [.sl 1 0 n, .int .i64 (a + 1), .int .u64 (nxS l a s)]), .at rw (.int .u8 l)]) .no
  | [.ptr 0 0], [.at true (.as 1 [.nil, .int .i64 a, .int .u64 s])] => .ite (srOk 0 [] a) (.ret (.int .i64 (nxV [] a s)) [.at true (.as 1 [.nil, .int .i64 (a + 1), .int .u64 (nxS [] a s)])]) .no
  | _, _ => .no
def gPick : GT := fun vs h => match vs, h with
  | [.ptr 0 0, .int .i64 k], [.at true (.as 1 [.sl 1 0 n, .int .i64 a, .int .u64 s]), .at rw (.int .u8 l)] => .ite (srOk n l a && decide (1 < k ∧ k ≤ 200)) (.ret (.int .i64 (Int.tmod (nxV l a s) k)) [.at true (.as 1 [.sl 1 0 n, .int .i64 (a + 1), .int .u64 (nxS l a s)]), .at rw (.int .u8 l)]) .no
  | [.ptr 0 0, .int .i64 k], [.at true (.as 1 [.nil, .int .i64 a, .int .u64 s])] => .ite (srOk 0 [] a && decide (1 < k ∧ k ≤ 200)) (.ret (.int .i64 (Int.tmod (nxV [] a s) k)) [.at true (.as 1 [.nil, .int .i64 (a + 1), .int .u64 (nxS [] a s)])]) .no
  | _, _ => .no
def tab_nxA : Fns := tabT []
theorem tabok_nxA : ∀ f, FnT Try.prog f (tab_nxA f) := tabT_nil
theorem run_nxA (N : Nat) (n : Nat) (a : Int) (s : Int) (rw : Bool) (l : List Int) : run ty tab_nxA ann0 N Try.f36 [.ptr 0 0] [.at true (.as 1 [.sl 1 0 n, .int .i64 a, .int .u64 s]), .at rw (.int .u8 l)]
    = (match decide ((a : Int) < ((n : Nat) : Int)) with | true => (match decide (0 ≤ (a : Int) ∧ (a : Int) < ((n : Nat) : Int)) with | true => (match l[0 + (a).toNat * 1]? with | some e1 => (match decide ((IntKind.i64.wrap (a + 1) : Int) ≤ ((n : Nat) : Int)) with | true => some (.int .i64 (IntKind.i64.wrap e1), [.at true (.as 1 [.sl 1 0 n, .int .i64 (IntKind.i64.wrap (a + 1)), .int .u64 (IntKind.u64.wrap ((IntKind.u64.wrap ((IntKind.u64.wrap (s * 6364136223846793005)) + (IntKind.u64.wrap (IntKind.i64.wrap e1)))) + 1442695040888963407))]), .at rw (.int .u8 l)]) | false => some (.int .i64 (IntKind.i64.wrap (IntKind.u64.wrap (BitVec.ofInt 64 (Int.fdiv (IntKind.u64.wrap ((IntKind.u64.wrap ((IntKind.u64.wrap (s * 6364136223846793005)) + (IntKind.u64.wrap (IntKind.i64.wrap e1)))) + 1442695040888963407)) (2 ^ 40)) &&& BitVec.ofInt 64 255).toNat)), [.at true (.as 1 [.sl 1 0 n, .int .i64 (IntKind.i64.wrap (a + 1)), .int .u64 (IntKind.u64.wrap ((IntKind.u64.wrap ((IntKind.u64.wrap (s * 6364136223846793005)) + (IntKind.u64.wrap (IntKind.i64.wrap e1)))) + 1442695040888963407))]), .at rw (.int .u8 l)])) | none => none) | false => none) | false => (match decide ((IntKind.i64.wrap (a + 1) : Int) ≤ ((n : Nat) : Int)) with | true => some (.int .i64 0, [.at true (.as 1 [.sl 1 0 n, .int .i64 (IntKind.i64.wrap (a + 1)), .int .u64 (IntKind.u64.wrap ((IntKind.u64.wrap ((IntKind.u64.wrap (s * 6364136223846793005)) + 0)) + 1442695040888963407))]), .at rw (.int .u8 l)]) | false => some (.int .i64 (IntKind.i64.wrap (IntKind.u64.wrap (BitVec.ofInt 64 (Int.fdiv (IntKind.u64.wrap ((IntKind.u64.wrap ((IntKind.u64.wrap (s * 6364136223846793005)) + 0)) + 1442695040888963407)) (2 ^ 40)) &&& BitVec.ofInt 64 255).toNat)), [.at true (.as 1 [.sl 1 0 n, .int .i64 (IntKind.i64.wrap (a + 1)), .int .u64 (IntKind.u64.wrap ((IntKind.u64.wrap ((IntKind.u64.wrap (s * 6364136223846793005)) + 0)) + 1442695040888963407))]), .at rw (.int .u8 l)]))) := by
  kernel_rfl
def tab_nxN : Fns := tabT []
theorem tabok_nxN : ∀ f, FnT Try.prog f (tab_nxN f) := tabT_nil
theorem run_nxN (N : Nat) (a : Int) (s : Int) : run ty tab_nxN ann0 N Try.f36 [.ptr 0 0] [.at true (.as 1 [.nil, .int .i64 a, .int .u64 s])]
    = (match decide ((a : Int) < 0) with | true => none | false => (match decide ((IntKind.i64.wrap (a + 1) : Int) ≤ 0) with | true => some (.int .i64 0, [.at true (.as 1 [.nil, .int .i64 (IntKind.i64.wrap (a + 1)), .int .u64 (IntKind.u64.wrap ((IntKind.u64.wrap ((IntKind.u64.wrap (s * 6364136223846793005)) + 0)) + 1442695040888963407))])]) | false => some (.int .i64 (IntKind.i64.wrap (IntKind.u64.wrap (BitVec.ofInt 64 (Int.fdiv (IntKind.u64.wrap ((IntKind.u64.wrap ((IntKind.u64.wrap (s * 6364136223846793005)) + 0)) + 1442695040888963407)) (2 ^ 40)) &&& BitVec.ofInt 64 255).toNat)), [.at true (.as 1 [.nil, .int .i64 (IntKind.i64.wrap (a + 1)), .int .u64 (IntKind.u64.wrap ((IntKind.u64.wrap ((IntKind.u64.wrap (s * 6364136223846793005)) + 0)) + 1442695040888963407))])]))) := by
  kernel_rfl
theorem ok_nx : FnT Try.prog 36 gNx := by
  intro vs hp v h' e
  unfold gNx at e
  split at e
  · rename_i n a s rw l
    obtain ⟨hd, e⟩ := T.pre_inv e
    obtain ⟨rfl, rfl⟩ := T.ret_inv e
    obtain ⟨rfl, hn2, h0, h1⟩ := of_decide_eq_true hd
    refine FnT.runs tabok_nxA Try.func36 rfl rfl ann0 0 _ _ _ _ ?_
    rw [T.run_of]
    refine Eq.trans (run_nxA 0 l.length a s rw l) ?_
    have hw : IntKind.i64.wrap (a + 1) = a + 1 := wrap_z (by omega) (by omega)
    rw [hw]
    unfold nxV nxS nxB
    by_cases hlt : a < ((l.length : Nat) : Int)
    · rw [decide_eq_true hlt, decide_eq_true (show 0 ≤ a ∧ a < ((l.length : Nat) : Int) from ⟨h0, hlt⟩), show 0 + a.toNat * 1 = a.toNat by omega, show l[a.toNat]? = some (l.getD a.toNat 0) by simp [List.getD_eq_getElem?_getD, show a.toNat < l.length by omega], decide_eq_true (show a + 1 ≤ ((l.length : Nat) : Int) by omega)]
    · rw [decide_eq_false hlt, decide_eq_false (show ¬ a + 1 ≤ ((l.length : Nat) : Int) by omega)]
      all_goals rfl
  · rename_i a s
    obtain ⟨hd, e⟩ := T.pre_inv e
    obtain ⟨rfl, rfl⟩ := T.ret_inv e
    obtain ⟨_, hn2, h0, h1⟩ := of_decide_eq_true hd
    refine FnT.runs tabok_nxN Try.func36 rfl rfl ann0 0 _ _ _ _ ?_
    rw [T.run_of]
    refine Eq.trans (run_nxN 0 a s) ?_
    have hw : IntKind.i64.wrap (a + 1) = a + 1 := wrap_z (by omega) (by omega)
    rw [hw]
    unfold nxV nxS nxB
    have hl : (([] : List Int).length : Int) = 0 := rfl
    rw [hl, decide_eq_false (show ¬ a < 0 by omega), decide_eq_false (show ¬ a + 1 ≤ 0 by omega)]
    all_goals rfl
  · exact (T.no_inv e).elim
def tab_pkA : Fns := tabT [(36, gNx)]
theorem tabok_pkA : ∀ f, FnT Try.prog f (tab_pkA f) := (tabT_cons (k := 36) ok_nx tabT_nil)
theorem run_pkA (N : Nat) (k : Int) (n : Nat) (a : Int) (s : Int) (rw : Bool) (l : List Int) : run ty tab_pkA ann0 N Try.f22 [.ptr 0 0, .int .i64 k] [.at true (.as 1 [.sl 1 0 n, .int .i64 a, .int .u64 s]), .at rw (.int .u8 l)]
    = (match decide ((k : Int) ≤ 1) with | true => some (.int .i64 0, [.at true (.as 1 [.sl 1 0 n, .int .i64 a, .int .u64 s]), .at rw (.int .u8 l)]) | false => (match srOk n l a with | true => (match decide ((k : Int) > 200) with | true => (match srOk n l (a + 1) with | true => (match decide (k = 0) with | true => none | false => some (.int .i64 (Int.tmod (IntKind.i64.wrap ((IntKind.i64.wrap ((nxV l a s) * 256)) + (nxV l (a + 1) (nxS l a s)))) k), [.at true (.as 1 [.sl 1 0 n, .int .i64 ((a + 1) + 1), .int .u64 (nxS l (a + 1) (nxS l a s))]), .at rw (.int .u8 l)])) | false => none) | false => (match decide (k = 0) with | true => none | false => some (.int .i64 (Int.tmod (nxV l a s) k), [.at true (.as 1 [.sl 1 0 n, .int .i64 (a + 1), .int .u64 (nxS l a s)]), .at rw (.int .u8 l)]))) | false => none)) := by
  kernel_rfl
def tab_pkN : Fns := tabT [(36, gNx)]
theorem tabok_pkN : ∀ f, FnT Try.prog f (tab_pkN f) := (tabT_cons (k := 36) ok_nx tabT_nil)
theorem run_pkN (N : Nat) (k : Int) (a : Int) (s : Int) : run ty tab_pkN ann0 N Try.f22 [.ptr 0 0, .int .i64 k] [.at true (.as 1 [.nil, .int .i64 a, .int .u64 s])]
    = (match decide ((k : Int) ≤ 1) with | true => some (.int .i64 0, [.at true (.as 1 [.nil, .int .i64 a, .int .u64 s])]) | false => (match srOk 0 ([] : List Int) a with | true => (match decide ((k : Int) > 200) with | true => (match srOk 0 ([] : List Int) (a + 1) with | true => (match decide (k = 0) with | true => none | false => some (.int .i64 (Int.tmod (IntKind.i64.wrap ((IntKind.i64.wrap ((nxV ([] : List Int) a s) * 256)) + (nxV ([] : List Int) (a + 1) (nxS ([] : List Int) a s)))) k), [.at true (.as 1 [.nil, .int .i64 ((a + 1) + 1), .int .u64 (nxS ([] : List Int) (a + 1) (nxS ([] : List Int) a s))])])) | false => none) | false => (match decide (k = 0) with | true => none | false => some (.int .i64 (Int.tmod (nxV ([] : List Int) a s) k), [.at true (.as 1 [.nil, .int .i64 (a + 1), .int .u64 (nxS ([] : List Int) a s)])]))) | false => none)) := by
  kernel_rfl
theorem ok_pk : FnT Try.prog 22 gPick := by
  intro vs hp v h' e
  unfold gPick at e
  split at e
  · rename_i k n a s rw l
    obtain ⟨hd, e⟩ := T.pre_inv e
    obtain ⟨rfl, rfl⟩ := T.ret_inv e
    rw [Bool.and_eq_true] at hd
    obtain ⟨hs, hk⟩ := hd
    obtain ⟨hk1, hk2⟩ := of_decide_eq_true hk
    refine FnT.runs tabok_pkA Try.func22 rfl rfl ann0 0 _ _ _ _ ?_
    rw [T.run_of]
    refine Eq.trans (run_pkA 0 k n a s rw l) ?_
    rw [decide_eq_false (show ¬ k ≤ 1 by omega), hs, decide_eq_false (show ¬ k > 200 by omega), decide_eq_false (show ¬ k = 0 by omega)]
    all_goals rfl
  · rename_i k a s
    obtain ⟨hd, e⟩ := T.pre_inv e
    obtain ⟨rfl, rfl⟩ := T.ret_inv e
    rw [Bool.and_eq_true] at hd
    obtain ⟨hs, hk⟩ := hd
    obtain ⟨hk1, hk2⟩ := of_decide_eq_true hk
    refine FnT.runs tabok_pkN Try.func22 rfl rfl ann0 0 _ _ _ _ ?_
    rw [T.run_of]
    refine Eq.trans (run_pkN 0 k a s) ?_
    rw [decide_eq_false (show ¬ k ≤ 1 by omega), hs, decide_eq_false (show ¬ k > 200 by omega), decide_eq_false (show ¬ k = 0 by omega)]
    all_goals rfl
  · exact (T.no_inv e).elim
end Go.Proofs.Ytdbmbelllghdcaa.Ab

namespace Go.Proofs.Ytdbmbelllghdcaa.Ab
set_option linter.unusedVariables false
set_option linter.unusedSimpArgs false
open Go
def sdV (l : List Int) : Nat → Int
  | 0 => 0
  | i + 1 => nxS l i (sdV l i)
def drV (l : List Int) (i : Nat) (k : Int) : Int := Int.tmod (nxV l i (sdV l i)) k
def a0F (l : List Int) : Nat := fop .quo .f32 (floatOfInt .f32 (IntKind.i64.wrap ((drV l 0 9) - 4))) 1073741824
def wqF (l : List Int) (i : Nat) : Nat := fop .quo .f32 (floatOfInt .f32 (IntKind.i64.wrap (1 + (drV l i 6)))) 1082130432
def hqF (l : List Int) (i : Nat) : Nat := fop .quo .f32 (floatOfInt .f32 (IntKind.i64.wrap ((drV l i 13) - 4))) 1082130432
def es2 (l : List Int) : List Nat := [a0F l, fop .add .f32 (a0F l) (wqF l 1)]
def es3 (l : List Int) : List Nat := [a0F l, fop .add .f32 (a0F l) (wqF l 1), fop .add .f32 (fop .add .f32 (a0F l) (wqF l 1)) (wqF l 2)]
def ds2 (l : List Int) : List Nat := [hqF l 3, hqF l 4, hqF l 5]
def ds3 (l : List Int) : List Nat := [hqF l 4, hqF l 5, hqF l 6, hqF l 7]
def hs2 (l : List Int) : List Nat := [0, hqF l 4, 0]
def hs3 (l : List Int) : List Nat := [0, hqF l 5, hqF l 6, 0]
def esV (n : Int) (l : List Int) : List Nat := match decide (n = 2) with | true => es2 l | false => es3 l
def hsV (n : Int) (l : List Int) : List Nat := match decide (n = 2) with | true => hs2 l | false => hs3 l
theorem srOk_of {m : Nat} {l : List Int} {i : Int} (h : l.length = m) (k : m < 2147483648) (h0 : 0 ≤ i) (h1 : i < 1000) : srOk m l i = true := decide_eq_true ⟨h, k, h0, h1⟩
def gDs : GT := fun vs h => match vs, h with
  | [.ptr 0 0, .int .i64 2], [.at true (.as 1 [.sl 1 0 m, .int .i64 0, .int .u64 0]), .at rw (.int .u8 l)] => .ite (decide (l.length = m ∧ m < 2147483648)) (.ret (.g [.sl 2 0 2, .sl 3 0 3]) [.at true (.as 1 [.sl 1 0 m, .int .i64 6, .int .u64 (sdV l 6)]), .at rw (.int .u8 l), .at true (.fl .f32 (es2 l)), .at true (.fl .f32 (ds2 l))]) .no
  | [.ptr 0 0, .int .i64 3], [.at true (.as 1 [.sl 1 0 m, .int .i64 0, .int .u64 0]), .at rw (.int .u8 l)] => .ite (decide (l.length = m ∧ m < 2147483648)) (.ret (.g [.sl 2 0 3, .sl 3 0 4]) [.at true (.as 1 [.sl 1 0 m, .int .i64 8, .int .u64 (sdV l 8)]), .at rw (.int .u8 l), .at true (.fl .f32 (es3 l)), .at true (.fl .f32 (ds3 l))]) .no
  | [.ptr 0 0, .int .i64 2], [.at true (.as 1 [.nil, .int .i64 0, .int .u64 0])] => .ret (.g [.sl 1 0 2, .sl 2 0 3]) [.at true (.as 1 [.nil, .int .i64 6, .int .u64 (sdV [] 6)]), .at true (.fl .f32 (es2 [])), .at true (.fl .f32 (ds2 []))]
  | [.ptr 0 0, .int .i64 3], [.at true (.as 1 [.nil, .int .i64 0, .int .u64 0])] => .ret (.g [.sl 1 0 3, .sl 2 0 4]) [.at true (.as 1 [.nil, .int .i64 8, .int .u64 (sdV [] 8)]), .at true (.fl .f32 (es3 [])), .at true (.fl .f32 (ds3 []))]
  | _, _ => .no
def tab_ds2A : Fns := tabT [(22, gPick)]
theorem tabok_ds2A : ∀ f, FnT Try.prog f (tab_ds2A f) := (tabT_cons (k := 22) ok_pk tabT_nil)
theorem run_ds2A (N : Nat) (m : Nat) (rw : Bool) (l : List Int) : run ty tab_ds2A ann0 N Try.f12 [.ptr 0 0, .int .i64 2] [.at true (.as 1 [.sl 1 0 m, .int .i64 0, .int .u64 0]), .at rw (.int .u8 l)]
    = (match srOk m l 0 && decide ((1 : Int) < 9 ∧ (9 : Int) ≤ 200) with | true => (match srOk m l 1 && decide ((1 : Int) < 6 ∧ (6 : Int) ≤ 200) with | true => (match srOk m l 2 && decide ((1 : Int) < 6 ∧ (6 : Int) ≤ 200) with | true => (match srOk m l 3 && decide ((1 : Int) < 13 ∧ (13 : Int) ≤ 200) with | true => (match srOk m l 4 && decide ((1 : Int) < 13 ∧ (13 : Int) ≤ 200) with | true => (match srOk m l 5 && decide ((1 : Int) < 13 ∧ (13 : Int) ≤ 200) with | true => some (.g [.sl 2 0 2, .sl 3 0 3], [.at true (.as 1 [.sl 1 0 m, .int .i64 6, .int .u64 (sdV l 6)]), .at rw (.int .u8 l), .at true (.fl .f32 [fop .quo .f32 (floatOfInt .f32 (IntKind.i64.wrap ((drV l 0 9) - 4))) 1073741824, fop .add .f32 (fop .quo .f32 (floatOfInt .f32 (IntKind.i64.wrap ((drV l 0 9) - 4))) 1073741824) (fop .quo .f32 (floatOfInt .f32 (IntKind.i64.wrap (1 + (drV l 1 6)))) 1082130432)]), .at true (.fl .f32 [fop .quo .f32 (floatOfInt .f32 (IntKind.i64.wrap ((drV l 3 13) - 4))) 1082130432, fop .quo .f32 (floatOfInt .f32 (IntKind.i64.wrap ((drV l 4 13) - 4))) 1082130432, fop .quo .f32 (floatOfInt .f32 (IntKind.i64.wrap ((drV l 5 13) - 4))) 1082130432])]) | false => none) | false => none) | false => none) | false => none) | false => none) | false => none) := by
  kernel_rfl
def tab_ds2N : Fns := tabT [(22, gPick)]
theorem tabok_ds2N : ∀ f, FnT Try.prog f (tab_ds2N f) := (tabT_cons (k := 22) ok_pk tabT_nil)
theorem run_ds2N (N : Nat)  : run ty tab_ds2N ann0 N Try.f12 [.ptr 0 0, .int .i64 2] [.at true (.as 1 [.nil, .int .i64 0, .int .u64 0])]
    = (match srOk 0 ([] : List Int) 0 && decide ((1 : Int) < 9 ∧ (9 : Int) ≤ 200) with | true => (match srOk 0 ([] : List Int) 1 && decide ((1 : Int) < 6 ∧ (6 : Int) ≤ 200) with | true => (match srOk 0 ([] : List Int) 2 && decide ((1 : Int) < 6 ∧ (6 : Int) ≤ 200) with | true => (match srOk 0 ([] : List Int) 3 && decide ((1 : Int) < 13 ∧ (13 : Int) ≤ 200) with | true => (match srOk 0 ([] : List Int) 4 && decide ((1 : Int) < 13 ∧ (13 : Int) ≤ 200) with | true => (match srOk 0 ([] : List Int) 5 && decide ((1 : Int) < 13 ∧ (13 : Int) ≤ 200) with | true => some (.g [.sl 1 0 2, .sl 2 0 3], [.at true (.as 1 [.nil, .int .i64 6, .int .u64 (sdV ([] : List Int) 6)]), .at true (.fl .f32 [fop .quo .f32 (floatOfInt .f32 (IntKind.i64.wrap ((drV ([] : List Int) 0 9) - 4))) 1073741824, fop .add .f32 (fop .quo .f32 (floatOfInt .f32 (IntKind.i64.wrap ((drV ([] : List Int) 0 9) - 4))) 1073741824) (fop .quo .f32 (floatOfInt .f32 (IntKind.i64.wrap (1 + (drV ([] : List Int) 1 6)))) 1082130432)]), .at true (.fl .f32 [fop .quo .f32 (floatOfInt .f32 (IntKind.i64.wrap ((drV ([] : List Int) 3 13) - 4))) 1082130432, fop .quo .f32 (floatOfInt .f32 (IntKind.i64.wrap ((drV ([] : List Int) 4 13) - 4))) 1082130432, fop .quo .f32 (floatOfInt .f32 (IntKind.i64.wrap ((drV ([] : List Int) 5 13) - 4))) 1082130432])]) | false => none) | false => none) | false => none) | false => none) | false => none) | false => none) := by
  kernel_rfl
def tab_ds3A : Fns := tabT [(22, gPick)]
theorem tabok_ds3A : ∀ f, FnT Try.prog f (tab_ds3A f) := (tabT_cons (k := 22) ok_pk tabT_nil)
theorem run_ds3A (N : Nat) (m : Nat) (rw : Bool) (l : List Int) : run ty tab_ds3A ann0 N Try.f12 [.ptr 0 0, .int .i64 3] [.at true (.as 1 [.sl 1 0 m, .int .i64 0, .int .u64 0]), .at rw (.int .u8 l)]
    = (match srOk m l 0 && decide ((1 : Int) < 9 ∧ (9 : Int) ≤ 200) with | true => (match srOk m l 1 && decide ((1 : Int) < 6 ∧ (6 : Int) ≤ 200) with | true => (match srOk m l 2 && decide ((1 : Int) < 6 ∧ (6 : Int) ≤ 200) with | true => (match srOk m l 3 && decide ((1 : Int) < 6 ∧ (6 : Int) ≤ 200) with | true => (match srOk m l 4 && decide ((1 : Int) < 13 ∧ (13 : Int) ≤ 200) with | true => (match srOk m l 5 && decide ((1 : Int) < 13 ∧ (13 : Int) ≤ 200) with | true => (match srOk m l 6 && decide ((1 : Int) < 13 ∧ (13 : Int) ≤ 200) with | true => (match srOk m l 7 && decide ((1 : Int) < 13 ∧ (13 : Int) ≤ 200) with | true => some (.g [.sl 2 0 3, .sl 3 0 4], [.at true (.as 1 [.sl 1 0 m, .int .i64 8, .int .u64 (sdV l 8)]), .at rw (.int .u8 l), .at true (.fl .f32 [fop .quo .f32 (floatOfInt .f32 (IntKind.i64.wrap ((drV l 0 9) - 4))) 1073741824, fop .add .f32 (fop .quo .f32 (floatOfInt .f32 (IntKind.i64.wrap ((drV l 0 9) - 4))) 1073741824) (fop .quo .f32 (floatOfInt .f32 (IntKind.i64.wrap (1 + (drV l 1 6)))) 1082130432), fop .add .f32 (fop .add .f32 (fop .quo .f32 (floatOfInt .f32 (IntKind.i64.wrap ((drV l 0 9) - 4))) 1073741824) (fop .quo .f32 (floatOfInt .f32 (IntKind.i64.wrap (1 + (drV l 1 6)))) 1082130432)) (fop .quo .f32 (floatOfInt .f32 (IntKind.i64.wrap (1 + (drV l 2 6)))) 1082130432)]), .at true (.fl .f32 [fop .quo .f32 (floatOfInt .f32 (IntKind.i64.wrap ((drV l 4 13) - 4))) 1082130432, fop .quo .f32 (floatOfInt .f32 (IntKind.i64.wrap ((drV l 5 13) - 4))) 1082130432, fop .quo .f32 (floatOfInt .f32 (IntKind.i64.wrap ((drV l 6 13) - 4))) 1082130432, fop .quo .f32 (floatOfInt .f32 (IntKind.i64.wrap ((drV l 7 13) - 4))) 1082130432])]) | false => none) | false => none) | false => none) | false => none) | false => none) | false => none) | false => none) | false => none) := by
  kernel_rfl
def tab_ds3N : Fns := tabT [(22, gPick)]
theorem tabok_ds3N : ∀ f, FnT Try.prog f (tab_ds3N f) := (tabT_cons (k := 22) ok_pk tabT_nil)
theorem run_ds3N (N : Nat)  : run ty tab_ds3N ann0 N Try.f12 [.ptr 0 0, .int .i64 3] [.at true (.as 1 [.nil, .int .i64 0, .int .u64 0])]
    = (match srOk 0 ([] : List Int) 0 && decide ((1 : Int) < 9 ∧ (9 : Int) ≤ 200) with | true => (match srOk 0 ([] : List Int) 1 && decide ((1 : Int) < 6 ∧ (6 : Int) ≤ 200) with | true => (match srOk 0 ([] : List Int) 2 && decide ((1 : Int) < 6 ∧ (6 : Int) ≤ 200) with | true => (match srOk 0 ([] : List Int) 3 && decide ((1 : Int) < 6 ∧ (6 : Int) ≤ 200) with | true => (match srOk 0 ([] : List Int) 4 && decide ((1 : Int) < 13 ∧ (13 : Int) ≤ 200) with | true => (match srOk 0 ([] : List Int) 5 && decide ((1 : Int) < 13 ∧ (13 : Int) ≤ 200) with | true => (match srOk 0 ([] : List Int) 6 && decide ((1 : Int) < 13 ∧ (13 : Int) ≤ 200) with | true => (match srOk 0 ([] : List Int) 7 && decide ((1 : Int) < 13 ∧ (13 : Int) ≤ 200) with | true => some (.g [.sl 1 0 3, .sl 2 0 4], [.at true (.as 1 [.nil, .int .i64 8, .int .u64 (sdV ([] : List Int) 8)]), .at true (.fl .f32 [fop .quo .f32 (floatOfInt .f32 (IntKind.i64.wrap ((drV ([] : List Int) 0 9) - 4))) 1073741824, fop .add .f32 (fop .quo .f32 (floatOfInt .f32 (IntKind.i64.wrap ((drV ([] : List Int) 0 9) - 4))) 1073741824) (fop .quo .f32 (floatOfInt .f32 (IntKind.i64.wrap (1 + (drV ([] : List Int) 1 6)))) 1082130432), fop .add .f32 (fop .add .f32 (fop .quo .f32 (floatOfInt .f32 (IntKind.i64.wrap ((drV ([] : List Int) 0 9) - 4))) 1073741824) (fop .quo .f32 (floatOfInt .f32 (IntKind.i64.wrap (1 + (drV ([] : List Int) 1 6)))) 1082130432)) (fop .quo .f32 (floatOfInt .f32 (IntKind.i64.wrap (1 + (drV ([] : List Int) 2 6)))) 1082130432)]), .at true (.fl .f32 [fop .quo .f32 (floatOfInt .f32 (IntKind.i64.wrap ((drV ([] : List Int) 4 13) - 4))) 1082130432, fop .quo .f32 (floatOfInt .f32 (IntKind.i64.wrap ((drV ([] : List Int) 5 13) - 4))) 1082130432, fop .quo .f32 (floatOfInt .f32 (IntKind.i64.wrap ((drV ([] : List Int) 6 13) - 4))) 1082130432, fop .quo .f32 (floatOfInt .f32 (IntKind.i64.wrap ((drV ([] : List Int) 7 13) - 4))) 1082130432])]) | false => none) | false => none) | false => none) | false => none) | false => none) | false => none) | false => none) | false => none) := by
  kernel_rfl
theorem ok_ds : FnT Try.prog 12 gDs := by
  intro vs hp v h' e
  unfold gDs at e
  split at e
  · rename_i m rw l
    obtain ⟨hd, e⟩ := T.pre_inv e
    obtain ⟨rfl, rfl⟩ := T.ret_inv e
    obtain ⟨h1, h2⟩ := of_decide_eq_true hd
    refine FnT.runs tabok_ds2A Try.func12 rfl rfl ann0 0 _ _ _ _ ?_
    rw [T.run_of]
    refine Eq.trans (run_ds2A 0 m rw l) ?_
    rw [srOk_of (i := 0) h1 h2 (by decide) (by decide), srOk_of (i := 1) h1 h2 (by decide) (by decide), srOk_of (i := 2) h1 h2 (by decide) (by decide), srOk_of (i := 3) h1 h2 (by decide) (by decide), srOk_of (i := 4) h1 h2 (by decide) (by decide), srOk_of (i := 5) h1 h2 (by decide) (by decide)]
    all_goals rfl
  · rename_i m rw l
    obtain ⟨hd, e⟩ := T.pre_inv e
    obtain ⟨rfl, rfl⟩ := T.ret_inv e
    obtain ⟨h1, h2⟩ := of_decide_eq_true hd
    refine FnT.runs tabok_ds3A Try.func12 rfl rfl ann0 0 _ _ _ _ ?_
    rw [T.run_of]
    refine Eq.trans (run_ds3A 0 m rw l) ?_
    rw [srOk_of (i := 0) h1 h2 (by decide) (by decide), srOk_of (i := 1) h1 h2 (by decide) (by decide), srOk_of (i := 2) h1 h2 (by decide) (by decide), srOk_of (i := 3) h1 h2 (by decide) (by decide), srOk_of (i := 4) h1 h2 (by decide) (by decide), srOk_of (i := 5) h1 h2 (by decide) (by decide), srOk_of (i := 6) h1 h2 (by decide) (by decide), srOk_of (i := 7) h1 h2 (by decide) (by decide)]
    all_goals rfl
  · obtain ⟨rfl, rfl⟩ := T.ret_inv e
    refine FnT.runs tabok_ds2N Try.func12 rfl rfl ann0 0 _ _ _ _ ?_
    rw [T.run_of]
    refine Eq.trans (run_ds2N 0 ) ?_
    rfl
  · obtain ⟨rfl, rfl⟩ := T.ret_inv e
    refine FnT.runs tabok_ds3N Try.func12 rfl rfl ann0 0 _ _ _ _ ?_
    rw [T.run_of]
    refine Eq.trans (run_ds3N 0 ) ?_
    rfl
  · exact (T.no_inv e).elim
def gFrm : GT := fun vs h => match vs, h with
  | [.sl 0 0 m], [.at rw (.int .u8 l)] => .ret (.ptr 1 0) [.at rw (.int .u8 l), .at true (.as 1 [.sl 0 0 m, .int .i64 0, .int .u64 0])]
  | [.nil], [] => .ret (.ptr 0 0) [.at true (.as 1 [.nil, .int .i64 0, .int .u64 0])]
  | _, _ => .no
def tab_frA : Fns := tabT []
theorem tabok_frA : ∀ f, FnT Try.prog f (tab_frA f) := tabT_nil
theorem run_frA (N : Nat) (m : Nat) (rw : Bool) (l : List Int) : run ty tab_frA ann0 N Try.f11 [.sl 0 0 m] [.at rw (.int .u8 l)]
    = some (.ptr 1 0, [.at rw (.int .u8 l), .at true (.as 1 [.sl 0 0 m, .int .i64 0, .int .u64 0])]) := by
  kernel_rfl
def tab_frN : Fns := tabT []
theorem tabok_frN : ∀ f, FnT Try.prog f (tab_frN f) := tabT_nil
theorem run_frN (N : Nat)  : run ty tab_frN ann0 N Try.f11 [.nil] []
    = some (.ptr 0 0, [.at true (.as 1 [.nil, .int .i64 0, .int .u64 0])]) := by
  kernel_rfl
theorem ok_frm : FnT Try.prog 11 gFrm := by
  intro vs hp v h' e
  unfold gFrm at e
  split at e
  · obtain ⟨rfl, rfl⟩ := T.ret_inv e
    refine FnT.runs tabok_frA Try.func11 rfl rfl ann0 0 _ _ _ _ ?_
    rw [T.run_of]
    exact run_frA 0 _ _ _
  · obtain ⟨rfl, rfl⟩ := T.ret_inv e
    refine FnT.runs tabok_frN Try.func11 rfl rfl ann0 0 _ _ _ _ ?_
    rw [T.run_of]
    exact run_frN 0
  · exact (T.no_inv e).elim
def tab_rs2A : Fns := tabT [(11, gFrm), (12, gDs)]
theorem tabok_rs2A : ∀ f, FnT Try.prog f (tab_rs2A f) := (tabT_cons (k := 11) ok_frm (tabT_cons (k := 12) ok_ds tabT_nil))
theorem run_rs2A (N : Nat) (m : Nat) (rw : Bool) (l : List Int) : run ty tab_rs2A ann0 N Try.f5 [.sl 0 0 m, .int .i64 2] [.at rw (.int .u8 l)]
    = (match decide (l.length = m ∧ m < 2147483648) with | true => some (.g [.sl 1 0 2, .sl 2 0 3], [.at rw (.int .u8 l), .at true (.fl .f32 [a0F l, fop .add .f32 (a0F l) (wqF l 1)]), .at true (.fl .f32 [0, hqF l 4, 0])]) | false => none) := by
  kernel_rfl
def tab_rs2N : Fns := tabT [(11, gFrm), (12, gDs)]
theorem tabok_rs2N : ∀ f, FnT Try.prog f (tab_rs2N f) := (tabT_cons (k := 11) ok_frm (tabT_cons (k := 12) ok_ds tabT_nil))
theorem run_rs2N (N : Nat)  : run ty tab_rs2N ann0 N Try.f5 [.nil, .int .i64 2] []
    = some (.g [.sl 0 0 2, .sl 1 0 3], [.at true (.fl .f32 [a0F ([] : List Int), fop .add .f32 (a0F ([] : List Int)) (wqF ([] : List Int) 1)]), .at true (.fl .f32 [0, hqF ([] : List Int) 4, 0])]) := by
  kernel_rfl
def tab_rs3A : Fns := tabT [(11, gFrm), (12, gDs)]
theorem tabok_rs3A : ∀ f, FnT Try.prog f (tab_rs3A f) := (tabT_cons (k := 11) ok_frm (tabT_cons (k := 12) ok_ds tabT_nil))
theorem run_rs3A (N : Nat) (m : Nat) (rw : Bool) (l : List Int) : run ty tab_rs3A ann0 N Try.f5 [.sl 0 0 m, .int .i64 3] [.at rw (.int .u8 l)]
    = (match decide (l.length = m ∧ m < 2147483648) with | true => some (.g [.sl 1 0 3, .sl 2 0 4], [.at rw (.int .u8 l), .at true (.fl .f32 [a0F l, fop .add .f32 (a0F l) (wqF l 1), fop .add .f32 (fop .add .f32 (a0F l) (wqF l 1)) (wqF l 2)]), .at true (.fl .f32 [0, hqF l 5, hqF l 6, 0])]) | false => none) := by
  kernel_rfl
def tab_rs3N : Fns := tabT [(11, gFrm), (12, gDs)]
theorem tabok_rs3N : ∀ f, FnT Try.prog f (tab_rs3N f) := (tabT_cons (k := 11) ok_frm (tabT_cons (k := 12) ok_ds tabT_nil))
theorem run_rs3N (N : Nat)  : run ty tab_rs3N ann0 N Try.f5 [.nil, .int .i64 3] []
    = some (.g [.sl 0 0 3, .sl 1 0 4], [.at true (.fl .f32 [a0F ([] : List Int), fop .add .f32 (a0F ([] : List Int)) (wqF ([] : List Int) 1), fop .add .f32 (fop .add .f32 (a0F ([] : List Int)) (wqF ([] : List Int) 1)) (wqF ([] : List Int) 2)]), .at true (.fl .f32 [0, hqF ([] : List Int) 5, hqF ([] : List Int) 6, 0])]) := by
  kernel_rfl
def gRs : GT := fun vs h => match vs, h with
  | [.sl 0 0 m, .int .i64 n], [.at rw (.int .u8 l)] => .ite (decide (l.length = m ∧ m < 2147483648) && decide (n = 2 ∨ n = 3)) (.ret (.g [.sl 1 0 (esV n l).length, .sl 2 0 (hsV n l).length]) [.at rw (.int .u8 l), .at true (.fl .f32 (esV n l)), .at true (.fl .f32 (hsV n l))]) .no
  | [.nil, .int .i64 n], [] => .ite (decide (n = 2 ∨ n = 3)) (.ret (.g [.sl 0 0 (esV n []).length, .sl 1 0 (hsV n []).length]) [.at true (.fl .f32 (esV n [])), .at true (.fl .f32 (hsV n []))]) .no
  | _, _ => .no
theorem ok_rs : FnT Try.prog 5 gRs := by
  intro vs hp v h' e
  unfold gRs at e
  split at e
  · rename_i m n rw l
    obtain ⟨hd, e⟩ := T.pre_inv e
    obtain ⟨rfl, rfl⟩ := T.ret_inv e
    rw [Bool.and_eq_true] at hd
    obtain ⟨hd1, hd2⟩ := hd
    rcases of_decide_eq_true hd2 with rfl | rfl
    · refine FnT.runs tabok_rs2A Try.func5 rfl rfl ann0 0 _ _ _ _ ?_
      rw [T.run_of]
      refine Eq.trans (run_rs2A 0 m rw l) ?_
      rw [hd1]
      all_goals rfl
    · refine FnT.runs tabok_rs3A Try.func5 rfl rfl ann0 0 _ _ _ _ ?_
      rw [T.run_of]
      refine Eq.trans (run_rs3A 0 m rw l) ?_
      rw [hd1]
      all_goals rfl
  · rename_i n
    obtain ⟨hd, e⟩ := T.pre_inv e
    obtain ⟨rfl, rfl⟩ := T.ret_inv e
    rcases of_decide_eq_true hd with rfl | rfl
    · refine FnT.runs tabok_rs2N Try.func5 rfl rfl ann0 0 _ _ _ _ ?_
      rw [T.run_of]
      refine Eq.trans (run_rs2N 0 ) ?_
      skip
      all_goals rfl
    · refine FnT.runs tabok_rs3N Try.func5 rfl rfl ann0 0 _ _ _ _ ?_
      rw [T.run_of]
      refine Eq.trans (run_rs3N 0 ) ?_
      skip
      all_goals rfl
  · exact (T.no_inv e).elim
end Go.Proofs.Ytdbmbelllghdcaa.Ab
