/- What the proof names: lemmas and words, merged by a program from its parts. No condition. -/
import Derived.Test.YtppdnhjcnjfppaaZ1
import Derived.LoopN
import Derived.Test.YtppdnhjcnjfppaaProg
import Derived.KernelRfl
import Derived.Below
import Derived.ChangeSame
import Derived.ProofKit
import Derived.OpenShut
import Derived.Carry
namespace Go.Proofs.Ytppdnhjcnjfppaa.Ab
set_option linter.unusedVariables false
set_option linter.unusedSimpArgs false
open Go
def X.to : X → Exit
  | .norm => .normal
  | .exit id => .exit id
  | .ret => .ret
section
variable {P : Program} {R : Type} {r : R}
theorem mask_nth {keep : List Nat} : ∀ {t : List V} {n i : Nat}, nth (mask keep n t) i = nth t i ∨ nth (mask keep n t) i = V.any
  | [], _, _ => .inl rfl
  | v :: t, n, 0 => by simp only [mask, nth]; split; exact .inl rfl; exact .inr rfl
  | v :: t, n, i + 1 => mask_nth (t := t)
theorem mask_len {keep : List Nat} : ∀ {t : List V} {n : Nat}, (mask keep n t).length = t.length
  | [], _ => rfl
  | v :: t, n => by simp [mask, mask_len]
theorem nth_ren {ids : List Nat} {μ μ' : Mu} (hs : Sub ids μ μ') : ∀ {t t' : List V}, optMap (V.ren ids) t = some t' → ∀ {i : Nat} {cv : Value}, RepV μ (nth t i) cv → RepV μ' (nth t' i) cv
  | [], t', e, i, cv, h => by
    cases e
    obtain ⟨cs, rfl, hh⟩ := h
    refine ⟨cs, rfl, ?_⟩
    cases cs with
    | nil => trivial
    | cons _ _ => exact hh.elim
  | v :: t, t', e, i, cv, h => by
    obtain ⟨y, m, e1, e2, rfl⟩ := optMap_cons e
    cases i with
    | zero => exact RepV.ren hs e1 h
    | succ i => exact nth_ren hs e2 h
theorem tidy_ok {μ0 : Mu} {h0 : H} {w0 : World} {keep : Option (List Nat)} {st : St} {K : St → Option R} (e : tidyK μ0.l.length keep st K = some r) :
    ∃ st', K st' = some r ∧ ∀ μ a w, Inv μ0 h0 w0 μ st a w → ∃ μ', Inv μ0 h0 w0 μ' st' a w := by
  unfold tidyK at e
  split at e
  · exact ⟨st, e, fun μ a w hi => ⟨μ, hi⟩⟩
  · rename_i l
    dsimp only at e
    generalize ht : mask l 0 st.t = t at e
    generalize hids : close st.h 3 ((t.flatMap V.ids).foldl addNew (List.range μ0.l.length)) = ids at e
    split at e
    · cases e
    · rename_i t' ht'
      split at e
      · cases e
      · rename_i h' hh'
        refine ⟨_, e, fun μ a w hi => ?_⟩
        have hn : ids.Nodup := by rw [← hids]; exact close_nodup _ 3 (foldAdd_nodup _ List.nodup_range)
        have hp : ∃ p, ids = List.range μ0.l.length ++ p := by
          obtain ⟨p, hp⟩ := foldAdd_pre (t.flatMap V.ids) (List.range μ0.l.length)
          obtain ⟨q, hq⟩ := close_pre st.h 3 ((t.flatMap V.ids).foldl addNew (List.range μ0.l.length))
          exact ⟨p ++ q, by rw [← hids, hq, hp, List.append_assoc]⟩
        obtain ⟨p, hp⟩ := hp
        obtain ⟨h1, h2⟩ := hi.ev.pick hp hn hh'
        refine ⟨pick μ ids, ⟨?_, fun i => ?_⟩, hi.defers, h1⟩
        · rw [hi.slots.1, optMap_len ht', ← ht, mask_len]
        · refine nth_ren h2 ht' ?_
          rw [← ht]
          rcases mask_nth (keep := l) (t := st.t) (n := 0) (i := i) with h3 | h3
          · rw [h3]; exact hi.slots.2 i
          · rw [h3]; trivial
theorem loopH_ok {μ0 : Mu} {h0 : H} {w0 : World} {kp : Option (List Nat × List Nat)} {c : Code} {body : St → (X → St → Option R) → Option R} {Q : Exit → Act → World → Prop}
    (hbody : ∀ {st : St} {K : X → St → Option R}, body st K = some r → ∀ Q', (∀ x st', K x st' = some r → ∀ μ a w, Inv μ0 h0 w0 μ st' a w → Q' (X.to x) a w) → ∀ μ a w, Inv μ0 h0 w0 μ st a w → c.wp P Q' a w)
    {K : X → St → Option R} (hQ : ∀ x st', K x st' = some r → ∀ μ a w, Inv μ0 h0 w0 μ st' a w → Q (X.to x) a w) :
    ∀ {n : Nat} {st : St}, loopH μ0.l.length kp body n st K = some r → ∀ μ a w, Inv μ0 h0 w0 μ st a w → Code.rounds P c Q n a w
  | 0, st, e, _, _, _, _ => by cases e
  | n + 1, st, e, μ, a, w, hi => by
    simp only [loopH] at e
    refine hbody e _ (fun x st' hx μ' a' w' hi' => ?_) μ a w hi
    cases x with
    | norm =>
      simp only at hx
      obtain ⟨st2, h1, h2⟩ := tidy_ok (h0 := h0) (w0 := w0) hx
      obtain ⟨μ2, hi2⟩ := h2 μ' a' w' hi'
      exact loopH_ok hbody hQ h1 μ2 a' w' hi2
    | exit id =>
      simp only at hx
      obtain ⟨st2, h1, h2⟩ := tidy_ok (h0 := h0) (w0 := w0) hx
      obtain ⟨μ2, hi2⟩ := h2 μ' a' w' hi'
      exact hQ _ st2 h1 μ2 a' w' hi2
    | ret =>
      simp only at hx
      obtain ⟨st2, h1, h2⟩ := tidy_ok (h0 := h0) (w0 := w0) hx
      obtain ⟨μ2, hi2⟩ := h2 μ' a' w' hi'
      exact hQ _ st2 h1 μ2 a' w' hi2
theorem exec_ok {ty : Ty} (hty : TyOk P ty) {fns : Fns} (hfn : ∀ f, FnT P f (fns f)) (hm : P.follows .mixedOrders = true) {an : Ann} {N : Nat} {μ0 : Mu} {h0 : H} {w0 : World} :
    ∀ (c : Code) {st : St} {K : X → St → Option R}, exec ty fns an N μ0.l.length c st K = some r →
      ∀ Q, (∀ x st', K x st' = some r → ∀ μ a w, Inv μ0 h0 w0 μ st' a w → Q (X.to x) a w) → ∀ μ a w, Inv μ0 h0 w0 μ st a w → c.wp P Q a w := by
  intro c
  induction c with
  | skip => intro st K e Q hQ μ a w hi; exact wp_skip (hQ .norm st e μ a w hi)
  | label l => intro st K e Q hQ μ a w hi; exact wp_label (hQ .norm st e μ a w hi)
  | region id ops draw =>
    intro st K e Q hQ μ a w hi
    simp only [exec] at e
    split at e
    · split at e
      · rename_i hok
        obtain ⟨t', h', h1, h2⟩ := opsK_lex hty hfn e
        exact wp_region_any hm (draw_wp (fun μ a w hi => hQ .norm _ h1 μ a w hi) hok h2 ⟨hi.slots, hi.defers, hi.ev.trans (Ev.drewN hi.ev.rel 1)⟩)
      · cases e
    · obtain ⟨t', h', h1, h2⟩ := opsK_lex hty hfn e
      exact wp_region_list (lex_wp (fun μ a w hi => hQ .norm _ h1 μ a w hi) h2 hi)
  | seq x y ihx ihy =>
    intro st K e Q hQ μ a w hi
    simp only [exec] at e
    refine wp_seq (ihx e _ (fun x st' hx μ' a' w' hi' => ?_) μ a w hi)
    cases x with
    | norm => exact ihy hx Q hQ μ' a' w' hi'
    | exit id => exact hQ _ st' hx μ' a' w' hi'
    | ret => exact hQ _ st' hx μ' a' w' hi'
  | cond c x y ihx ihy =>
    intro st K e Q hQ μ a w hi
    simp only [exec] at e
    split at e
    · rename_i p hc
      have h1 := ev_rep hi.slots c
      rw [hc] at h1
      split at e
      · exact wp_cond_true (repBool h1) (ihx e Q hQ μ a w hi)
      · exact wp_cond_false (repBool h1) (ihy e Q hQ μ a w hi)
    · cases e
  | block id b ih =>
    intro st K e Q hQ μ a w hi
    simp only [exec] at e
    refine wp_block (ih e _ (fun x st' hx μ' a' w' hi' => ?_) μ a w hi)
    cases x with
    | norm => exact hQ _ st' hx μ' a' w' hi'
    | exit j =>
      simp only at hx
      simp only [X.to, Exit.inBlock]
      split at hx
      · rename_i hj
        simp only [decide_eq_true_eq] at hj
        rw [if_pos hj]
        exact hQ _ st' hx μ' a' w' hi'
      · rename_i hj
        simp only [decide_eq_false_iff_not] at hj
        rw [if_neg hj]
        exact hQ _ st' hx μ' a' w' hi'
    | ret => exact hQ _ st' hx μ' a' w' hi'
  | loop b ih =>
    intro st K e Q hQ μ a w hi
    simp only [exec, loopK] at e
    obtain ⟨st', h1, h2⟩ := tidy_ok (h0 := h0) (w0 := w0) e
    obtain ⟨μ', hi'⟩ := h2 μ a w hi
    exact wp_loop_rounds _ (loopH_ok (fun hb Q' hQ' => ih hb Q' hQ') hQ h1 μ' a w hi')
  | rangeFunc f ps x y _ _ => intro st K e; simp only [exec] at e; cases e
  | exit id => intro st K e Q hQ μ a w hi; exact wp_exit (hQ (.exit id) st e μ a w hi)
  | scope b _ => intro st K e; simp only [exec] at e; cases e
  | goto l => intro st K e; simp only [exec] at e; cases e
  | ret => intro st K e Q hQ μ a w hi; exact wp_ret (hQ .ret st e μ a w hi)
  | refuse s => intro st K e; simp only [exec] at e; cases e
theorem repVs_nth {μ : Mu} {n : Nat} : ∀ {vs : List V} {cvs : List Value}, RepVs μ vs cvs → vs.length = cvs.length ∧ ∀ i, RepV μ (nth (vs ++ List.replicate n V.no) i) (((cvs ++ List.replicate n undef)[i]?).getD undef)
  | [], [], _ => ⟨rfl, fun i => by
      have : ∀ (n i : Nat), nth (List.replicate n V.no) i = V.no := by
        intro n
        induction n with
        | zero => intro i; rfl
        | succ n ih => intro i; cases i with | zero => rfl | succ i => exact ih i
      simp only [List.nil_append, this]
      have : ((List.replicate n undef)[i]?).getD undef = undef := by rw [List.getElem?_replicate]; split <;> rfl
      rw [this]
      exact RepV.no μ⟩
  | v :: vs, c :: cvs, h => by
    obtain ⟨h1, h2⟩ := repVs_nth (n := n) h.2
    refine ⟨by simp [h1], fun i => ?_⟩
    cases i with
    | zero => exact h.1
    | succ i => exact h2 i
theorem finish_ok {ty : Ty} (hty : TyOk P ty) {fn : Func} {μ : Mu} {h : H} {w : World} {v : V} {h' : H} :
    ∀ st a w', finish ty fn μ.l.length st = some (v, h') → ∀ μ', Inv μ h w μ' st a w' → a.defers = [] ∧ ∃ cv, (results fn a.tmps).run P w' = .ok cv w' ∧ ∃ cv', Ending.returned cv = .returned cv' ∧ Goes μ h w v h' cv' w' := by
  intro st a w' hfin μ' hi
  refine ⟨hi.defers, ?_⟩
  unfold finish at hfin
  split at hfin
  · cases hfin
  · rename_i u hu
    dsimp only at hfin
    generalize hids : close st.h 3 ((u.ids).foldl addNew (List.range μ.l.length)) = ids at hfin
    split at hfin
    · cases hfin
    · rename_i u' hu'
      split at hfin
      · cases hfin
      · rename_i h2 hh2
        cases hfin
        have hn : ids.Nodup := by rw [← hids]; exact close_nodup _ 3 (foldAdd_nodup _ List.nodup_range)
        obtain ⟨p, hp⟩ : ∃ p, ids = List.range μ.l.length ++ p := by
          obtain ⟨p, hp⟩ := foldAdd_pre u.ids (List.range μ.l.length)
          obtain ⟨q, hq⟩ := close_pre st.h 3 ((u.ids).foldl addNew (List.range μ.l.length))
          exact ⟨p ++ q, by rw [← hids, hq, hp, List.append_assoc]⟩
        obtain ⟨k1, k2⟩ := hi.ev.pick hp hn hh2
        have hres : ∃ cv, (results fn a.tmps).run P w' = .ok cv w' ∧ RepV μ' u cv := by
          unfold resOf at hu
          split at hu
          · rename_i rr hrr
            cases hu
            have hrr' : fn.results = #[.tmp rr] := by apply Array.toList_inj.1; simpa using hrr
            exact ⟨_, results_tmp hrr' _ _ _, hi.slots.2 rr⟩
          · rename_i bb tt hrr
            have hrr' : fn.results = #[.cell bb tt] := by apply Array.toList_inj.1; simpa using hrr
            obtain ⟨v2, hv2, hall⟩ := loadVar_run hty hu
            cases hv2
            obtain ⟨cv, q1, q2⟩ := hall μ' _ (hi.slots.2 bb) w' hi.ev.rel
            refine ⟨cv, ?_, q2⟩
            unfold results
            rw [hrr', Array.mapM_eq_mapM_toList]
            simp only [List.mapM_cons, List.mapM_nil]
            simp only [Sem.run_bind, Sem.run_map, Sem.run_pure, Result.andThen] at q1 ⊢
            rw [q1]
            simp
          · rename_i hnot hnot2
            simp only [Option.map_eq_some_iff] at hu
            obtain ⟨us, hus, rfl⟩ := hu
            have key : ∀ (l : List ResultVar) (us : List U), optMap (fun r => match r with | .tmp r => (match nth st.t r with | .u x => some x | _ => none) | .cell b tt => (match loadK ty st.h tt (nth st.t b) some with | some (.u x) => some x | _ => none)) l = some us →
                ∃ cs : List Value, (l.mapM (fun (x : ResultVar) => match x with | .tmp t => (pure (a.tmps.getD t undef) : Sem Value) | .cell b t => (do loadVar t (← asAddr (a.tmps.getD b undef)) : Sem Value)) : Sem (List Value)).run P w' = .ok cs w' ∧ RepUs μ' us cs ∧ cs.length = l.length := by
              intro l
              induction l with
              | nil => intro us e; cases e; exact ⟨[], by simp, trivial, rfl⟩
              | cons x l ih =>
                intro us e
                obtain ⟨y, m, e1, e2, rfl⟩ := optMap_cons e
                obtain ⟨cs, q1, q2, q3⟩ := ih m e2
                cases x with
                | cell b t =>
                  simp only at e1
                  split at e1
                  · rename_i z hz
                    cases e1
                    obtain ⟨v2, hv2, hall⟩ := loadVar_run hty hz
                    cases hv2
                    obtain ⟨cv, r1, r2⟩ := hall μ' _ (hi.slots.2 b) w' hi.ev.rel
                    refine ⟨cv :: cs, ?_, ⟨r2, q2⟩, by simp [q3]⟩
                    rw [List.mapM_cons]
                    simp only [Sem.run_bind, Sem.run_pure, Result.andThen, q1] at r1 ⊢
                    rw [r1]
                    simp only [q1]
                  · cases e1
                | tmp b =>
                  simp only at e1
                  split at e1
                  · rename_i z hz
                    cases e1
                    have hs := hi.slots.2 b
                    rw [hz] at hs
                    refine ⟨a.tmps.getD b undef :: cs, ?_, ⟨hs, q2⟩, by simp [q3]⟩
                    rw [List.mapM_cons]
                    simp only [Sem.run_bind, Sem.run_pure, Result.andThen, q1]
                  · cases e1
            obtain ⟨cs, q1, q2, q3⟩ := key _ _ hus
            have hne : cs.length ≠ 1 := by
              intro h1
              rw [q3] at h1
              obtain ⟨x, hx⟩ := List.length_eq_one_iff.1 h1
              cases x with
              | tmp b => exact hnot b hx
              | cell b t => exact hnot2 b t hx
            refine ⟨.tuple ⟨cs⟩, ?_, ⟨cs, rfl, q2⟩⟩
            unfold results
            rw [Array.mapM_eq_mapM_toList]
            simp only [Sem.run_bind, Sem.run_map]
            erw [q1]
            simp only [Result.andThen]
            rw [dif_neg (by simpa using hne)]
            rfl
        obtain ⟨cv, q1, q2⟩ := hres
        exact ⟨cv, q1, cv, rfl, _, k1, q2.ren k2 hu'⟩
theorem fn_ok {ty : Ty} (hty : TyOk P ty) {fns : Fns} (hfn : ∀ f, FnT P f (fns f)) (hm : P.follows .mixedOrders = true) {f : FuncId} {fn : Func} {code : Code} (hf : P.funcs[f]? = some fn) (hb : fn.body = some code)
    (hname : (fn.name == "runtime.NumGoroutine") = false) {g : List V → H → T} (an : Ann)
    (H : ∀ vs h v h', (g vs h).run = some (v, h') → ∃ N, run ty fns an N fn vs h = some (v, h')) : FnT P f g := by
  intro vs h v h' hg μ w cvs hr hv
  left
  obtain ⟨N, hrun⟩ := H vs h v h' hg
  refine ⟨?_, ?_⟩
  · have hname' : ¬ (fn.name = "runtime.NumGoroutine") := by simpa using hname
    simp [callFunc, hf, hname', hb]
  · refine calls_of_wp hf hb ?_
    unfold run at hrun
    rw [hb] at hrun
    dsimp only at hrun
    rw [← hr.len] at hrun
    obtain ⟨hlen, hnth⟩ := repVs_nth (n := fn.ntmps - vs.length) hv
    have hinv : Inv μ h w μ ⟨vs ++ List.replicate (fn.ntmps - vs.length) V.no, h⟩ { tmps := ⟨cvs⟩ ++ Array.replicate (fn.ntmps - (⟨cvs⟩ : Array Value).size) undef, defers := [] } w := by
      refine ⟨⟨by simp [hlen], fun i => ?_⟩, rfl, Ev.refl hr⟩
      have := hnth i
      rw [Array.getD_eq_getD_getElem?]
      have e : ((⟨cvs⟩ : Array Value) ++ Array.replicate (fn.ntmps - (⟨cvs⟩ : Array Value).size) undef)[i]? = (cvs ++ List.replicate (fn.ntmps - vs.length) undef)[i]? := by
        rw [← Array.getElem?_toList, Array.toList_append, Array.toList_replicate]
        rw [show (⟨cvs⟩ : Array Value).size = vs.length from hlen.symm]
      rw [e]
      exact this
    have hend := finish_ok (P := P) (fn := fn) (μ := μ) (h := h) (w := w) (v := v) (h' := h') hty
    refine exec_ok hty hfn hm code hrun _ (fun x st' hx μ' a' w' hi' => ?_) μ _ w hinv
    cases x with
    | norm => exact hend st' a' w' hx μ' hi'
    | exit id => cases hx
    | ret => exact hend st' a' w' hx μ' hi'
end
end Go.Proofs.Ytppdnhjcnjfppaa.Ab

namespace Go.Proofs.Ytppdnhjcnjfppaa.Ab
set_option linter.unusedVariables false
set_option linter.unusedSimpArgs false
open Go
def tyTab : List (Option TyI) := [
  none,
  none,
  some ⟨false, 1, 8, [.int .i64 0], .int .i64⟩,
  some ⟨false, 1, 8, [.int .i64 0], .int .i64⟩,
  some ⟨false, 1, 1, [.bool false], .bool⟩,
  some ⟨false, 1, 1, [.int .u8 0], .int .u8⟩,
  none,
  none,
  none,
  none,
  none,
  none,
  none,
  none,
  none,
  none,
  none,
  none,
  none,
  none,
  none,
  some ⟨false, 1, 4, [.int .i32 0], .int .i32⟩,
  some ⟨false, 1, 24, [.nil], .slice 30⟩,
  none,
  none,
  none,
  none,
  none,
  none,
  some ⟨false, 1, 24, [.nil], .slice 22⟩,
  some ⟨false, 1, 4, [.fl .f32 0], .fl .f32⟩,
  none,
  none,
  none,
  none,
  none,
  some ⟨false, 1, 8, [.fl .f64 0], .fl .f64⟩,
  none,
  none,
  none,
  none,
  none,
  none,
  none,
  none,
  none,
  none,
  none,
  none,
  none,
  none,
  some ⟨false, 1, 4, [.int .u32 0], .int .u32⟩,
  none,
  none,
  none,
  none,
  none,
  none,
  none,
  none,
  none
]
def ty : Ty := fun t => match tyTab[t]? with | some o => o | none => none
theorem tyOk : TyOk Try.prog ty := tyOk_of (by kernel_rfl)
theorem mixed : Try.prog.follows .mixedOrders = true := by kernel_rfl
end Go.Proofs.Ytppdnhjcnjfppaa.Ab

namespace Go.Proofs.Ytppdnhjcnjfppaa.Ab
set_option linter.unusedVariables false
set_option linter.unusedSimpArgs false
open Go Go.RowKit Go.WideShapes Go.ChangeShapes
abbrev G := List V → H → Option (V × H)
def FnOk (P : Program) (f : FuncId) (g : G) : Prop := FnT P f fun vs h => T.of (g vs h)
abbrev GT := List V → H → T
def tab : List (FuncId × G) → Fns
  | [] => fun _ _ _ => .no
  | (k, g) :: l => fun f => if f = k then fun vs h => T.of (g vs h) else tab l f
abbrev gT (g : G) : GT := fun vs h => T.of (g vs h)
def tabT : List (FuncId × GT) → Fns
  | [] => fun _ _ _ => .no
  | (k, g) :: l => fun f => if f = k then g else tabT l f
theorem tabT_nil {P : Program} : ∀ f, FnT P f (tabT [] f) := fun _ _ _ _ _ h => by cases h
theorem tabT_cons {P : Program} {k : FuncId} {g : GT} {l : List (FuncId × GT)} (h : FnT P k g) (t : ∀ f, FnT P f (tabT l f)) : ∀ f, FnT P f (tabT ((k, g) :: l) f) := by
  intro f
  simp only [tabT]
  split
  · rename_i e; subst e; exact h
  · exact t f
def ann0 : Ann := ⟨fun _ => none, fun _ _ => .quiet⟩
theorem fnT {f : FuncId} {fn : Func} {code : Code} {fns : Fns} (hfn : ∀ f, FnT Try.prog f (fns f)) (hf : Try.prog.funcs[f]? = some fn) (hb : fn.body = some code) (hn : (fn.name == "runtime.NumGoroutine") = false) {g : GT} (an : Ann)
    (H : ∀ vs h v h', (g vs h).run = some (v, h') → ∃ N, run ty fns an N fn vs h = some (v, h')) : FnT Try.prog f g :=
  fn_ok tyOk hfn mixed hf hb hn an H
theorem FnT.as {P : Program} {f : FuncId} {g g' : GT} (h : FnT P f g) (e : ∀ vs h, (g' vs h).run = (g vs h).run) : FnT P f g' := fun vs hp v h' e' => h vs hp v h' (by rw [← e]; exact e')
theorem law_calls {f : FuncId} {fn : Func} {code : Code} {g : G} (hok : FnOk Try.prog f g) (hf : Try.prog.funcs[f]? = some fn) (hb : fn.body = some code) (hn : (fn.name == "runtime.NumGoroutine") = false)
    {vs : List V} {cvs : List Value} {h h' : H} {μ : Mu} {w : World} (hg : g vs h = some (.bool true, h')) (hr : Rel μ h w) (hv : RepVs μ vs cvs) (hro : ∀ k, ¬ Wr μ h k) :
    Calls Try.prog f ⟨cvs⟩ w fun e w' => e = .returned (.bool true) ∧ Below w.heap.size w w' := by
  have hn' : ¬ (fn.name = "runtime.NumGoroutine") := by simpa using hn
  have hrun : (callFunc f ⟨cvs⟩).run Try.prog w = .ok (.enter f ⟨cvs⟩) w := by simp [callFunc, hf, hn', hb]
  rcases hok vs h _ h' (by rw [T.run_of]; exact hg) μ w cvs hr hv with ⟨_, h2⟩ | ⟨cv, w', h1, _⟩
  · refine h2.mono fun e w' ⟨cv, h3, μ', he, hcv⟩ => ?_
    cases repBool hcv
    exact ⟨h3, he.fr.os, he.fr.tape, he.fr.output, he.fr.size, fun k hk => he.fr.block k hk (hro k)⟩
  · rw [hrun] at h1
    cases h1
theorem Rel.none (w : World) : Rel ⟨noZ, []⟩ [] w := ⟨rfl, fun i m rw c h => by simp at h, fun i m c h => by simp at h, fun i m rw c h => by simp at h, fun i j m n c rw d _ h => by simp at h, fun k cur h => by cases h⟩
section
variable {H : Type} {enc : TypeId × Value → H} {P : Program}
theorem post_of_below {f : Func} {s : ChangeSpec} {apart fresh handsOn again : Bool} {W W' : World} {args : Array Value} {v : Value} {ds gs : List (DataW H)} {before pa pv : List MemPlace}
    (hW : DataW.Whole enc P f.params.toList s.vars apart W args.toList ds gs before)
    (hres : ∀ (b : Nat) (sp : Nat → Bool) (hd : Bool), DataW.TrodAll enc P W' b sp hd f.resultTypes.toList (v.resultList f.resultTypes.size) (s.fn H (ds ++ gs)).results [])
    (hargs : ∀ sp : Nat → Bool, (∀ p ∈ before, sp p.block = true) → DataW.TrodAll enc P W' 0 sp true f.params.toList args.toList (s.fn H (ds ++ gs)).args pa)
    (hvars : ∀ sp : Nat → Bool, (∀ p ∈ before, sp p.block = true) → DataW.TrodVars enc P W' sp s.vars (s.fn H (ds ++ gs)).vars pv)
    (hps : before = pa ++ pv) (hb : Below W.heap.size W W')
    (hok : ∀ (j : Nat) (t : TypeId) (r : Value), f.resultTypes[j]? = some t → (v.resultList f.resultTypes.size)[j]? = some r → Value.okWide P W' .any 0 t r) :
    s.post enc P f apart fresh handsOn again W args v W' := by
  have hlt : ∀ p ∈ before, p.block < W.heap.size := fun p hp => hW.lt p hp
  have hold : ∀ p ∈ before, (fun b => decide (b < W.heap.size)) p.block = true := fun p hp => by simpa using hlt p hp
  refine ⟨ds, gs, before, [], pa, pv, hW, hres _ _ _, hargs _ hold, hvars _ hold, World.keptBut_mono (fun p hp => ⟨hp, ?_⟩) (hb.frame (· ∈ before)), fun _ => ?_⟩
  · rw [hps, List.mem_append] at hp
    exact Or.inr hp
  · obtain ⟨_, _, _, _, _, hz, hn⟩ := hW
    refine ⟨hok, _, _, ([] ++ pa) ++ pv, ⟨[] ++ pa, pv, trodAll_append (hargs _ (fun _ _ => rfl)) (hres _ _ _), hvars _ (fun _ _ => rfl), rfl, ?_, ?_⟩, ?_⟩
    · intro b off hp
      have hin : MemPlace.cell b off ∈ before := by rw [hps]; simpa using hp
      rw [hb.frozen (hlt _ hin)]
      exact hz b off hin
    · intro ha
      have := hn ha
      rw [hps] at this
      simpa using this
    · intro p hp _
      rw [hps]
      simpa using hp
end
end Go.Proofs.Ytppdnhjcnjfppaa.Ab

namespace Go.Proofs.Ytppdnhjcnjfppaa.Ab
set_option linter.unusedVariables false
set_option linter.unusedSimpArgs false
open Go Go.ChangeShapes Go.WideShapes Go.RowKit
section
variable {H : Type} {enc : TypeId × Value → H} {P : Program} {w : World} {base : Nat} {spare : Nat → Bool} {held : Bool} {fuel : Nat} {t : TypeId} {cs : List Value} {x : DataW H × List MemPlace}
theorem trod_float {k : FloatKind} (ht : P.underlying t = some (.float k)) (h : DataW.trod enc P w base spare held fuel t cs = some x) : ∃ n, cs = [.float k n] ∧ x = (.lit (.float k n), []) ∧ (Lit.float k n).wf = true := by
  cases fuel with
  | zero => simp [DataW.trod] at h
  | succ m =>
    unfold DataW.trod at h
    rw [ht] at h
    split at h <;> simp_all
theorem list_of {α : Type} {p : Nat → α → Prop} : ∀ n, (∀ i, i < n → ∃ x, p i x) → ∃ l : List α, l.length = n ∧ ∀ i x, l[i]? = some x → p i x
  | 0, _ => ⟨[], rfl, fun i x h => by simp at h⟩
  | n + 1, h => by
    obtain ⟨l, h1, h2⟩ := list_of n (fun i hi => h i (by omega))
    obtain ⟨x, hx⟩ := h n (by omega)
    refine ⟨l ++ [x], by simp [h1], fun i y hy => ?_⟩
    by_cases hi : i < l.length
    · rw [List.getElem?_append_left hi] at hy
      exact h2 i y hy
    · rw [List.getElem?_append_right (by omega)] at hy
      have hlt : i - l.length < 1 := by simpa using (List.getElem?_eq_some_iff.1 hy).1
      have e : i = n := by omega
      subst e
      rw [show i - l.length = 0 by omega] at hy
      simp at hy
      subst hy
      exact hx
theorem slice_open {W : World} {e : TypeId} {v : Value} {d : DataW H} {ps : List MemPlace} {r : Reach} {b0 : Nat} {Q : Value → Prop} (ht : P.underlying t = some (.slice e)) (hc : P.cellsOf e = 1)
    (hQ : ∀ n cs y, DataW.trod enc P W 0 (fun _ => true) true n e cs = some y → ∃ u, cs = [u] ∧ Q u)
    (hval : Value.okWide P W r b0 t v) (hd : DataW.Trod enc P W 0 (fun _ => true) true t v d ps) :
    v = .slice none 0 0 ∨ ∃ b off len cap, v = .slice (some ⟨b, off, none⟩) len cap ∧ len ≤ cap ∧ cap ≤ maxLen ∧ b < W.heap.size ∧ ∀ i, i < len → ∃ u, W.cell? ⟨b, off + i, none⟩ = some u ∧ Q u := by
  obtain ⟨a0, l0, c0, rfl⟩ := okWide_slice ht hval
  obtain ⟨fuel, hf⟩ := hd
  rcases DataW.trod_slice ht hf with ⟨hcs, _⟩ | ⟨a, len, cap, elems, rest, n, _, hcs, hx, hb, hl, hm, hlen, hel, _⟩
  · left
    simpa [Value.cells] using hcs
  · right
    have hcs' : a0 = some a ∧ l0 = len ∧ c0 = cap := by simpa [Value.cells] using hcs
    obtain ⟨rfl, rfl, rfl⟩ := hcs'
    obtain ⟨b, off, spot⟩ := a
    simp only [Value.okWide, ht, Cell.okWide, Cell.ok, World.has] at hval
    obtain ⟨_, _, _, hsp, row, cells, hsh, _⟩ := hval
    have hsp : spot = none := hsp
    subst hsp
    have hlt : b < W.heap.size := by
      unfold World.shape? at hsh
      by_cases h : b < W.heap.size
      · exact h
      · rw [Array.getElem?_eq_none (by omega)] at hsh
        cases hsh
    refine ⟨b, off, l0, c0, rfl, hl, hm, hlt, fun i hi => ?_⟩
    have h1 := hel i hi
    rw [hc, Nat.mul_one] at h1
    have hi' : i < elems.length := by omega
    rw [List.getElem?_eq_getElem hi', Option.bind_eq_some_iff] at h1
    obtain ⟨cs', h2, h3⟩ := h1
    obtain ⟨u, rfl, hu⟩ := hQ _ _ _ h3
    refine ⟨u, ?_, hu⟩
    have := cell_of_cells?_one h2
    rwa [add_plain] at this
end
def RoB (w : World) (m : M) (b : B) : Prop := ∃ c, b = .at false c ∧ m.blk < w.heap.size ∧ ∀ p x, c.get? p = some x → ∃ u, w.cell? ⟨m.blk, m.off + p, none⟩ = some u ∧ ∀ μ, RepA μ x u
def RoBs (w : World) : List M → List B → Prop
  | [], [] => True
  | m :: μ, b :: h => RoB w m b ∧ RoBs w μ h
  | _, _ => False
theorem RoBs.get {w : World} : ∀ {μ : List M} {h : List B}, RoBs w μ h → μ.length = h.length ∧ ∀ (i : Nat) (m : M) (b : B), μ[i]? = some m → h[i]? = some b → RoB w m b
  | [], [], _ => ⟨rfl, fun i m b hm _ => by simp at hm⟩
  | m :: μ, b :: h, ⟨h1, h2⟩ => by
    obtain ⟨h3, h4⟩ := RoBs.get h2
    refine ⟨by simp [h3], fun i m' b' hm hb => ?_⟩
    cases i with
    | zero => simp at hm hb; subst hm; subst hb; exact h1
    | succ i => exact h4 i m' b' (by simpa using hm) (by simpa using hb)
theorem Rel.ro {w : World} {μ : List M} {h : List B} (hr : RoBs w μ h) : Rel ⟨noZ, μ⟩ h w := by
  obtain ⟨h1, h2⟩ := hr.get
  refine ⟨h1, fun i m rw c hm hb j x hx => ?_, fun i m c hm hb => ?_, fun i m rw c hm hb _ => ?_, fun i j m n c rw d _ hm _ hb _ _ => ?_, fun k cur h => by cases h⟩
  · obtain ⟨c', e, _, hc⟩ := h2 i m _ hm hb
    cases e
    obtain ⟨u, hu, hr⟩ := hc j x hx
    exact ⟨u, hu, hr _⟩
  · obtain ⟨c', e, _⟩ := h2 i m _ hm hb
    cases e
  · exact (h2 i m _ hm hb).choose_spec.2.1
  · obtain ⟨c', e, _⟩ := h2 i m _ hm hb
    cases e
theorem not_wr_ro {w : World} {μ : List M} {h : List B} (hr : RoBs w μ h) (k : Nat) : ¬ Wr ⟨noZ, μ⟩ h k := by
  rintro ⟨i, m, c, hm, hb, _⟩
  obtain ⟨c', e, _⟩ := hr.get.2 i m _ hm hb
  cases e
section
variable {H : Type} {enc : TypeId × Value → H} {P : Program} {t e : TypeId} {W : World} {v : Value} {d : DataW H} {ps : List MemPlace} {r : Reach} {b0 : Nat}
theorem open_fls {k : FloatKind} (ht : P.underlying t = some (.slice e)) (he : P.underlying e = some (.float k)) (hc : P.cellsOf e = 1)
    (hval : Value.okWide P W r b0 t v) (hd : DataW.Trod enc P W 0 (fun _ => true) true t v d ps) :
    v = .slice none 0 0 ∨ ∃ (m : M) (l : List Nat), RoB W m (.at false (.fl k l)) ∧ ∀ (μ : Mu) i, μ.l[i]? = some m → RepA μ (.sl i 0 l.length) v := by
  rcases slice_open (Q := fun u => ∃ b, u = .float k b) ht hc (fun n cs y h => by obtain ⟨b, h1, _⟩ := trod_float he h; exact ⟨_, h1, b, rfl⟩) hval hd with h | ⟨b, off, len, cap, rfl, h1, h2, h3, h4⟩
  · exact .inl h
  · right
    obtain ⟨zs, hz, hzs⟩ := list_of (p := fun i z => W.cell? ⟨b, off + i, none⟩ = some (.float k z)) len (fun i hi => by obtain ⟨u, hu, z, rfl⟩ := h4 i hi; exact ⟨z, hu⟩)
    refine ⟨⟨b, off, false, 0, 0, 0⟩, zs.map (canon k), ⟨_, rfl, h3, fun p x hx => ?_⟩, fun μ i hm => ⟨_, ⟨b, off + 0, none⟩, cap, hm, by simp only [List.length_map, hz, Nat.add_zero], by simp only [List.length_map, hz]; exact h1, h2, fun _ => rfl, fun _ ho => by cases ho⟩⟩
    unfold C.get? C.getK at hx
    simp only [List.getElem?_map] at hx
    cases hp : zs[p]? with
    | none => rw [hp] at hx; cases hx
    | some z =>
      rw [hp] at hx
      cases hx
      exact ⟨_, hzs p z hp, fun μ => ⟨z, rfl, rfl⟩⟩
end
end Go.Proofs.Ytppdnhjcnjfppaa.Ab

namespace Go.Proofs.Ytppdnhjcnjfppaa.Ab
set_option linter.unusedVariables false
set_option linter.unusedSimpArgs false
open Go
def finB (x : Nat) : Bool := FloatKind.f32.format.order (fop .sub .f32 x x) 0 == some .eq
def ltB (x y : Nat) : Bool := FloatKind.f32.format.order x y == some .lt
def gtB (x y : Nat) : Bool := FloatKind.f32.format.order x y == some .gt
def eqB (x y : Nat) : Bool := FloatKind.f32.format.order x y == some .eq
theorem fin_order {x : Nat} (h : finB x = true) (hn : isN .f32 x = true) : False := by
  unfold finB at h
  have h1 : fop .sub .f32 x x = qnan .f32 := by
    unfold fop
    cases e : floatBits .sub .f32 x x with
    | none => rfl
    | some r => have := floatBits_some e; rw [hn] at this; exact absurd this.1 (by decide)
  rw [h1, order_nan (Or.inl (isN_qnan _))] at h
  exact absurd h (by decide)
theorem order_some {x y : Nat} (hx : isN .f32 x = false) (hy : isN .f32 y = false) : ∃ o, FloatKind.f32.format.order x y = some o := by
  unfold isN at hx hy
  unfold Ieee.Format.order
  have hx' : (FloatKind.f32.format.read x).isNaN = false := hx
  have hy' : (FloatKind.f32.format.read y).isNaN = false := hy
  revert hx' hy'
  cases FloatKind.f32.format.read x <;> cases FloatKind.f32.format.read y <;> intro a b <;> first | exact ⟨_, rfl⟩ | exact Bool.noConfusion (show true = false from a) | exact Bool.noConfusion (show true = false from b)
theorem fin_cmp {x : Nat} (h : finB x = true) : ∃ o, FloatKind.f32.format.order x 0 = some o := by
  cases hn : isN .f32 x with
  | true => exact (fin_order h hn).elim
  | false => exact order_some hn (by decide)
theorem fconv_up (b : Nat) : ∃ y, fconv .f32 b .f64 = some y := by
  unfold fconv
  rw [if_neg (by decide)]
  split
  · exact ⟨_, rfl⟩
  · rename_i hn
    unfold floatToFloatBits
    rw [if_neg (by decide)]
    cases hd : FloatKind.f32.decode b with
    | nan s f => rw [hd] at hn; exact absurd rfl hn
    | infinity s => exact ⟨_, rfl⟩
    | number s m e =>
      have hb : m < 2 ^ 24 ∧ -149 ≤ e ∧ e ≤ 104 := by
        have hd' : Ieee.single.read b = .number s m e := hd
        unfold Ieee.Format.read at hd'
        have c1 : Ieee.single.signWeight = 2147483648 := by decide
        have c2 : Ieee.single.binade = 8388608 := by decide
        have c3 : Ieee.single.infRung = 2139095040 := by decide
        have c4 : Ieee.single.leastPlace = -149 := by decide
        simp only [c1, c2, c3, c4] at hd'
        split at hd'
        · simp only [Ieee.Datum.number.injEq] at hd'; omega
        · split at hd'
          · simp only [Ieee.Datum.number.injEq] at hd'; omega
          · split at hd' <;> cases hd'
      have hi : (FloatKind.f64.decode (FloatKind.f64.encode (.number s m e))).isInfinity = false := by
        show (Ieee.double.read (Ieee.double.nearest s m e)).isInfinity = false
        have c1 : Ieee.double.signWeight = 9223372036854775808 := by decide
        have c2 : Ieee.double.binade = 4503599627370496 := by decide
        have c3 : Ieee.double.infRung = 9218868437227405312 := by decide
        have c4 : Ieee.double.leastPlace = -1074 := by decide
        have c5 : Ieee.double.fractionBits = 52 := by decide
        have fin : ∀ r : Nat, r < 9218868437227405312 → (Ieee.double.read (Ieee.double.word s r)).isInfinity = false := by
          intro r hr
          unfold Ieee.Format.read Ieee.Format.word
          simp only [c1, c2, c3, c4]
          have hm : (if s = true then 9223372036854775808 + r else r) % 9223372036854775808 = r := by split <;> omega
          rw [hm]
          split
          · rfl
          · first | rfl | (rw [if_pos hr]; rfl)
        unfold Ieee.Format.nearest
        split
        · exact fin 0 (by decide)
        · rename_i hm
          simp only [c2, c3, c4, c5]
          have hl : m.log2 < 24 := (Nat.log2_lt hm).2 hb.1
          have hmax : max (e + (m.log2 : Int) - (52 : Nat)) (-1074) = e + (m.log2 : Int) - 52 := by omega
          rw [hmax]
          have hz : (e + (m.log2 : Int) - 52 - e).toNat = 0 := by omega
          have hs : (e - (e + (m.log2 : Int) - 52)).toNat = 52 - m.log2 := by omega
          rw [hz, hs]
          have hk : Ieee.Toward.even.cut s (m <<< (52 - m.log2)) 0 = m <<< (52 - m.log2) := by
            unfold Ieee.Toward.cut
            simp [Nat.mod_one]
          rw [hk]
          have hlt : m <<< (52 - m.log2) < 9007199254740992 := by
            rw [Nat.shiftLeft_eq]
            have h1 : m < 2 ^ (m.log2 + 1) := Nat.lt_log2_self
            have h2 : 2 ^ (m.log2 + 1) * 2 ^ (52 - m.log2) = 9007199254740992 := by
              rw [← Nat.pow_add]
              have : m.log2 + 1 + (52 - m.log2) = 53 := by omega
              rw [this]
            calc m * 2 ^ (52 - m.log2) < 2 ^ (m.log2 + 1) * 2 ^ (52 - m.log2) := Nat.mul_lt_mul_of_pos_right h1 (Nat.pow_pos (by decide))
              _ = _ := h2
          generalize m <<< (52 - m.log2) = q at hlt
          have hq : (e + (m.log2 : Int) - 52 - -1074).toNat ≤ 1149 := by omega
          generalize (e + (m.log2 : Int) - 52 - -1074).toNat = p at hq
          refine fin _ (Nat.lt_of_le_of_lt (Nat.min_le_left _ _) (Nat.lt_of_lt_of_le (Nat.add_lt_add_of_le_of_lt (Nat.mul_le_mul_right _ hq) hlt) (by decide)))
      dsimp only
      rw [hi]
      exact ⟨_, rfl⟩
def up (b : Nat) : Nat := (fconv .f32 b .f64).getD 0
theorem fconv_eq (b : Nat) : fconv .f32 b .f64 = some (up b) := by
  obtain ⟨y, h⟩ := fconv_up b
  unfold up
  rw [h]; rfl
def eqD (x y : Nat) : Bool := FloatKind.f64.format.order x y == some .eq
def gtD (x y : Nat) : Bool := FloatKind.f64.format.order x y == some .gt
def one64 : Nat := 4607182418800017408
def sameB (a b : Nat) : Bool :=
  cond (!eqD a a || !eqD b b) (!eqD a a && !eqD b b) (cond (eqD a 0 && eqD b 0) (gtD (fop .quo .f64 one64 a) 0 == gtD (fop .quo .f64 one64 b) 0) (eqD a b))
theorem sameB_self (a : Nat) : sameB a a = true := by
  unfold sameB
  cases h : eqD a a <;> cases h2 : eqD a 0 <;> simp
def gSame : G := fun vs h => match vs, h with | [.fl .f64 a, .fl .f64 b], [] => some (.bool (sameB a b), []) | _, _ => none
end Go.Proofs.Ytppdnhjcnjfppaa.Ab

namespace Go.Proofs.Ytppdnhjcnjfppaa.Ab
set_option linter.unusedVariables false
set_option linter.unusedSimpArgs false
open Go
def anys (n : Nat) (l : List V) : List V := Nat.rec (motive := fun _ => List V) l (fun _ r => .any :: r) n
abbrev kEnd (fn : Func) (k : Nat) : X → St → Option (V × H) := fun x st => match x with | .exit _ => none | _ => finish ty fn k st
abbrev kSeqR {R : Type} (fns : Fns) (an : Ann) (N k : Nat) (c : Code) (K : X → St → Option R) : X → St → Option R := fun x st => match x with | .norm => exec ty fns an N k c st K | x => K x st
abbrev kBlkR {R : Type} (id : Nat) (K : X → St → Option R) : X → St → Option R := fun x st => match x with
  | .exit j => match decide (j = id) with
    | true => K .norm st
    | false => K (.exit j) st
  | x => K x st
def cAt : List Bool → Code → Code
  | [], c => c
  | false :: p, .seq a _ => cAt p a
  | true :: p, .seq _ b => cAt p b
  | false :: p, .cond _ a _ => cAt p a
  | true :: p, .cond _ _ b => cAt p b
  | _ :: p, .block _ b => cAt p b
  | _ :: p, .loop b => cAt p b
  | _ :: p, .scope b => cAt p b
  | _, _ => .skip
def atOf (p : List Bool) (fn : Func) : Code := match fn.body with | some c => cAt p c | none => .skip
theorem T.ite_inv {b : Bool} {x y : T} {v : V} {h' : H} (e : (T.ite b x y).run = some (v, h')) : (b = true ∧ x.run = some (v, h')) ∨ (b = false ∧ y.run = some (v, h')) := by
  cases b with
  | true => exact .inl ⟨rfl, e⟩
  | false => exact .inr ⟨rfl, e⟩
theorem T.pre_inv {b : Bool} {x : T} {v : V} {h' : H} (e : (T.ite b x .no).run = some (v, h')) : b = true ∧ x.run = some (v, h') := by
  rcases T.ite_inv e with h | ⟨_, h⟩
  · exact h
  · cases h
theorem T.ret_inv {a v : V} {g h' : H} (e : (T.ret a g).run = some (v, h')) : v = a ∧ h' = g := by cases e; exact ⟨rfl, rfl⟩
theorem T.no_inv {v : V} {h' : H} (e : T.no.run = some (v, h')) : False := by cases e
def nonB (x : Nat) : Bool := finB x && (gtB x 0 || eqB x 0)
def gF1 (p : Nat → Bool) : G := fun vs h => match vs, h with | [.fl .f32 x], [] => some (.bool (p x), []) | _, _ => none
theorem not_non (x : Nat) : (match !finB x with | true => true | false => ltB x 0) = !nonB x := by
  unfold nonB
  cases h : finB x with
  | false => rfl
  | true =>
    obtain ⟨o, ho⟩ := fin_cmp h
    unfold ltB eqB gtB
    rw [ho]
    cases o <;> rfl
theorem wrap_s {n : Int} (h0 : 0 ≤ n) (h1 : n < 9223372036854775808) : IntKind.i64.wrap n = n := by
  simp only [IntKind.wrap, IntKind.signed, IntKind.bits]
  first | omega | (simp; omega)
theorem wrap_z {n : Int} (h0 : -9223372036854775808 ≤ n) (h1 : n < 9223372036854775808) : IntKind.i64.wrap n = n := by
  simp only [IntKind.wrap, IntKind.signed, IntKind.bits]
  first | omega | (simp; omega)
theorem dlt {i n : Nat} (h : i < n) : decide ((i : Int) < (n : Int)) = true := by simp; omega
theorem dge {i n : Nat} (h : n ≤ i) : decide ((i : Int) < (n : Int)) = false := by simp; omega
theorem din {i n : Nat} (h : i < n) : decide (0 ≤ (i : Int) ∧ (i : Int) < ((n : Nat) : Int)) = true := by simp; omega
theorem ix {i : Nat} : 0 + ((i : Nat) : Int).toNat * 1 = i := by omega
theorem wr {i : Nat} (h : i < 2147483648) : IntKind.i64.wrap ((i : Int) + 1) = ((i + 1 : Nat) : Int) := by
  rw [wrap_s (by omega) (by omega)]; omega
theorem lt_of_get {α : Type} {l : List α} {i : Nat} {x : α} (h : l[i]? = some x) : i < l.length := (List.getElem?_eq_some_iff.1 h).1
def firstIx {α : Type} (t : α → Bool) : List α → Nat → Option Nat
  | [], _ => none
  | x :: l, i => match t x with
    | true => some i
    | false => firstIx t l (i + 1)
theorem scan {R α : Type} (l : List α) (t : α → Bool) (L : Nat → Int → Option R) (A : Nat → Option R) (Z : Option R)
    (hs : ∀ (M i : Nat) x, l[i]? = some x → L (M + 1) i = match t x with | true => A i | false => L M ((i + 1 : Nat) : Int))
    (he : ∀ M, L (M + 1) (l.length : Nat) = Z) :
    ∀ suf pre, l = pre ++ suf → ∀ M, L (suf.length + 1 + M) pre.length = match firstIx t suf pre.length with | some j => A j | none => Z := by
  intro suf
  induction suf with
  | nil =>
    intro pre hl M
    have hlen : pre.length = l.length := by rw [hl]; simp
    rw [show ([] : List α).length + 1 + M = M + 1 by simp; omega, hlen, he]
    rfl
  | cons x suf ih =>
    intro pre hl M
    rw [show (x :: suf).length + 1 + M = (suf.length + 1 + M) + 1 by simp; omega, hs _ _ x (by rw [hl]; simp)]
    unfold firstIx
    cases t x with
    | true => rfl
    | false =>
      have := ih (pre ++ [x]) (by rw [hl]; simp) M
      have e : pre.length + 1 = (pre ++ [x]).length := by simp
      rw [e]
      exact this
theorem scan0 {R α : Type} (l : List α) (t : α → Bool) (L : Nat → Int → Option R) (A : Nat → Option R) (Z : Option R)
    (hs : ∀ (M i : Nat) x, l[i]? = some x → L (M + 1) i = match t x with | true => A i | false => L M ((i + 1 : Nat) : Int))
    (he : ∀ M, L (M + 1) (l.length : Nat) = Z) : L (l.length + 1) 0 = match firstIx t l 0 with | some j => A j | none => Z := scan l t L A Z hs he l [] rfl 0
def ixOf {α : Type} (p : α → Bool) (l : List α) : Int := match firstIx p l 0 with | some j => (j : Int) | none => -1
theorem first_all {α : Type} (p : α → Bool) : ∀ (l : List α) (i : Nat), (firstIx (fun x => !p x) l i).isNone = l.all p
  | [], i => rfl
  | x :: l, i => by
    unfold firstIx
    simp only [List.all_cons]
    cases p x with
    | true => simp only [Bool.not_true, Bool.true_and]; exact first_all p l (i + 1)
    | false => simp
theorem ix_all {α : Type} (p : α → Bool) (l : List α) : (!(decide (ixOf (fun x => !p x) l ≥ 0))) = l.all p := by
  rw [← first_all p l 0]
  unfold ixOf
  cases firstIx (fun x => !p x) l 0 with
  | none => rfl
  | some j => simp
def rounds {σ : Type} (f : Nat → σ → σ) : Nat → Nat → σ → σ
  | 0, _, s => s
  | k + 1, i, s => rounds f k (i + 1) (f i s)
theorem count_up {R σ : Type} (n : Nat) (f : Nat → σ → σ) (L : Nat → Nat → σ → Option R) (Z : σ → Option R) (inv : Nat → σ → Prop)
    (hs : ∀ M i s, i < n → inv i s → L (M + 1) i s = L M (i + 1) (f i s) ∧ inv (i + 1) (f i s))
    (he : ∀ M s, inv n s → L (M + 1) n s = Z s) :
    ∀ k i s, i + k = n → inv i s → ∀ M, L (k + 1 + M) i s = Z (rounds f k i s) := by
  intro k
  induction k with
  | zero =>
    intro i s hi hv M
    have : i = n := by omega
    subst this
    rw [show 0 + 1 + M = M + 1 by omega]
    exact he M s hv
  | succ k ih =>
    intro i s hi hv M
    rw [show k + 1 + 1 + M = (k + 1 + M) + 1 by omega]
    obtain ⟨h1, h2⟩ := hs (k + 1 + M) i s (by omega) hv
    rw [h1]
    exact ih (i + 1) _ (by omega) h2 M
def marks (k : Int) (n : Nat) : List Nat := (List.range' 0 n).map fun i : Nat => floatOfInt .f32 (k + (i : Int))
theorem marks_get {k : Int} {n i : Nat} (h : i < n) : (marks k n)[i]? = some (floatOfInt .f32 (k + (i : Int))) := by simp [marks, h]
theorem order_self {k : FloatKind} {x : Nat} (h : isN k x = false) : k.format.order x x = some .eq := by
  unfold isN at h
  have h : (k.format.read x).isNaN = false := h
  unfold Ieee.Format.order
  revert h
  cases k.format.read x with
  | nan s f => intro h; exact Bool.noConfusion (show true = false from h)
  | infinity s => intro _; cases s <;> rfl
  | number s m e =>
    intro _
    unfold Ieee.Datum.order
    simp
theorem mark_rounds (g : Int → Nat) : ∀ k i (q : Int) (pre r : List Nat), r.length = k → pre.length = i → rounds (fun i (s : Int × List Nat) => (s.1 + 1, s.2.set i (g s.1))) k i (q, pre ++ r) = (q + (k : Int), pre ++ (List.range' 0 k).map fun j : Nat => g (q + (j : Int)))
  | 0, i, q, pre, r, hr, _ => by
    have : r = [] := by simpa using hr
    subst this
    simp [rounds]
  | k + 1, i, q, pre, [], hr, _ => by simp at hr
  | k + 1, i, q, pre, x :: r, hr, hp => by
    show rounds _ k (i + 1) (q + 1, (pre ++ x :: r).set i (g q)) = _
    have e : (pre ++ x :: r).set i (g q) = (pre ++ [g q]) ++ r := by
      rw [List.set_append_right _ _ (by omega)]
      simp [hp]
    rw [e, mark_rounds g k (i + 1) (q + 1) _ _ (by simpa using hr) (by simp [hp])]
    simp only [List.append_assoc, Prod.mk.injEq]
    refine ⟨by omega, ?_⟩
    congr 1
    rw [List.range'_succ, List.map_cons, show (0 : Nat) + 1 = 1 from rfl, List.range'_eq_map_range, List.range'_eq_map_range]
    simp only [List.map_map, List.singleton_append, List.cons.injEq]
    refine ⟨by simp, ?_⟩
    apply List.map_congr_left
    intro j _
    simp only [Function.comp]
    congr 1
    omega
theorem mark_all (q : Int) (l : List Nat) (n : Nat) (h : l.length = n) : rounds (fun i (s : Int × List Nat) => (s.1 + 1, s.2.set i (floatOfInt .f32 s.1))) n 0 (q, l) = (q + (n : Int), marks q n) := mark_rounds (floatOfInt .f32) n 0 q [] l h rfl
abbrev nilF : V := .tup [.a .nil, .a (.bool false)]
end Go.Proofs.Ytppdnhjcnjfppaa.Ab

namespace Go.Proofs.Ytppdnhjcnjfppaa.Ab
set_option linter.unusedVariables false
set_option linter.unusedSimpArgs false
open Go
def tab_l01Finite : Fns := tabT []
theorem tabok_l01Finite : ∀ f, FnT Try.prog f (tab_l01Finite f) := tabT_nil
theorem run_l01Finite (N : Nat) (x : Nat) : run ty tab_l01Finite ann0 N Try.f27 [.fl .f32 x] []
    = some (.bool (eqB (fop .sub .f32 x x) 0), []) := by
  kernel_rfl
theorem ok_l01Finite : FnT Try.prog 27 (gT (gF1 finB)) := by
  refine fnT tabok_l01Finite Try.func27 rfl rfl ann0 fun vs h v h' e => ⟨0, ?_⟩
  rw [T.run_of] at e
  unfold gF1 at e
  split at e
  case h_2 => cases e
  rename_i x
  cases e
  refine Eq.trans (run_l01Finite 0 x) ?_
  rfl
def tab_IsFinite : Fns := tabT []
theorem tabok_IsFinite : ∀ f, FnT Try.prog f (tab_IsFinite f) := tabT_nil
theorem run_IsFinite (N : Nat) (x : Nat) : run ty tab_IsFinite ann0 N Try.f30 [.fl .f32 x] []
    = some (.bool (eqB (fop .sub .f32 x x) 0), []) := by
  kernel_rfl
theorem ok_IsFinite : FnT Try.prog 30 (gT (gF1 finB)) := by
  refine fnT tabok_IsFinite Try.func30 rfl rfl ann0 fun vs h v h' e => ⟨0, ?_⟩
  rw [T.run_of] at e
  unfold gF1 at e
  split at e
  case h_2 => cases e
  rename_i x
  cases e
  refine Eq.trans (run_IsFinite 0 x) ?_
  rfl
def tab_l02Least : Fns := tabT [(27, gT (gF1 finB))]
theorem tabok_l02Least : ∀ f, FnT Try.prog f (tab_l02Least f) := (tabT_cons (k := 27) ok_l01Finite tabT_nil)
theorem run_l02Least (N : Nat) (x : Nat) : run ty tab_l02Least ann0 N Try.f20 [.fl .f32 x] []
    = (match finB x with | true => some (.bool (gtB x 0 || eqB x 0), []) | false => some (.bool false, [])) := by
  kernel_rfl
theorem ok_l02Least : FnT Try.prog 20 (gT (gF1 nonB)) := by
  refine fnT tabok_l02Least Try.func20 rfl rfl ann0 fun vs h v h' e => ⟨0, ?_⟩
  rw [T.run_of] at e
  unfold gF1 at e
  split at e
  case h_2 => cases e
  rename_i x
  cases e
  refine Eq.trans (run_l02Least 0 x) ?_
  unfold nonB
  cases finB x <;> rfl
def inB (n lo hi : Int) : Bool := decide (n ≥ lo) && decide (n ≤ hi)
def gIn : G := fun vs h => match vs, h with | [.int .i64 n, .int .i64 a, .int .i64 b], [] => some (.bool (inB n a b), []) | _, _ => none
def tab_l00In : Fns := tabT []
theorem tabok_l00In : ∀ f, FnT Try.prog f (tab_l00In f) := tabT_nil
theorem run_l00In (N : Nat) (n : Int) (a : Int) (b : Int) : run ty tab_l00In ann0 N Try.f19 [.int .i64 n, .int .i64 a, .int .i64 b] []
    = (match decide ((n : Int) ≥ a) with | true => some (.bool (decide ((n : Int) ≤ b)), []) | false => some (.bool false, [])) := by
  kernel_rfl
theorem ok_l00In : FnT Try.prog 19 (gT gIn) := by
  refine fnT tabok_l00In Try.func19 rfl rfl ann0 fun vs h v h' e => ⟨0, ?_⟩
  rw [T.run_of] at e
  unfold gIn at e
  split at e
  case h_2 => cases e
  rename_i n a b
  cases e
  refine Eq.trans (run_l00In 0 n a b) ?_
  unfold inB
  cases decide (n ≥ a) <;> rfl
def tab_within : Fns := tabT []
theorem tabok_within : ∀ f, FnT Try.prog f (tab_within f) := tabT_nil
theorem run_within (N : Nat) (n : Int) (a : Int) (b : Int) : run ty tab_within ann0 N Try.f23 [.int .i64 n, .int .i64 a, .int .i64 b] []
    = (match decide ((n : Int) ≥ a) with | true => some (.bool (decide ((n : Int) ≤ b)), []) | false => some (.bool false, [])) := by
  kernel_rfl
theorem ok_within : FnT Try.prog 23 (gT gIn) := by
  refine fnT tabok_within Try.func23 rfl rfl ann0 fun vs h v h' e => ⟨0, ?_⟩
  rw [T.run_of] at e
  unfold gIn at e
  split at e
  case h_2 => cases e
  rename_i n a b
  cases e
  refine Eq.trans (run_within 0 n a b) ?_
  unfold inB
  cases decide (n ≥ a) <;> rfl
def gIxT (f : FuncId) (p : Nat → Bool) : GT := fun vs h => match vs, h with
  | [.sl 0 0 n, .fn f'], [.at rw (.fl .f32 l)] => if f' = f then .ite (decide (l.length = n ∧ n < 2147483648)) (.ret (.int .i64 (ixOf p l)) [.at rw (.fl .f32 l)]) .no else .no
  | [.nil, .fn f'], [] => if f' = f then .ret (.int .i64 (-1)) [] else .no
  | _, _ => .no
def gCoT (f : FuncId) (p : Nat → Bool) : GT := fun vs h => match vs, h with
  | [.sl 0 0 n, .fn f'], [.at rw (.fl .f32 l)] => if f' = f then .ite (decide (l.length = n ∧ n < 2147483648)) (.ret (.bool (decide (ixOf p l ≥ 0))) [.at rw (.fl .f32 l)]) .no else .no
  | [.nil, .fn f'], [] => if f' = f then .ret (.bool false) [] else .no
  | _, _ => .no
def gAllT (p : Nat → Bool) : GT := fun vs h => match vs, h with
  | [.sl 0 0 n], [.at rw (.fl .f32 l)] => .ite (decide (l.length = n ∧ n < 2147483648)) (.ret (.bool (l.all p)) [.at rw (.fl .f32 l)]) .no
  | [.nil], [] => .ret (.bool true) []
  | _, _ => .no
def tab_fin1 : Fns := tabT [(30, gT (gF1 finB))]
theorem tabok_fin1 : ∀ f, FnT Try.prog f (tab_fin1 f) := (tabT_cons (k := 30) ok_IsFinite tabT_nil)
theorem run_fin1 (N : Nat) (x : Nat) : run ty tab_fin1 ann0 N Try.f31 [.fl .f32 x] []
    = some (.bool (!(finB x)), []) := by
  kernel_rfl
theorem ok_fin1 : FnT Try.prog 31 (gT (gF1 (fun x => !finB x))) := by
  refine fnT tabok_fin1 Try.func31 rfl rfl ann0 fun vs h v h' e => ⟨0, ?_⟩
  rw [T.run_of] at e
  unfold gF1 at e
  split at e
  case h_2 => cases e
  rename_i x
  cases e
  refine Eq.trans (run_fin1 0 x) ?_
  show _ = some (V.bool (!finB x), [])
  rfl
def an_ixfin : Ann := ⟨fun r => if r = 2 then some ([0, 1, 7, 8], [4]) else none, fun _ _ => .quiet⟩
def tab_ixfin : Fns := tabT [(31, gT (gF1 (fun x => !finB x)))]
theorem tabok_ixfin : ∀ f, FnT Try.prog f (tab_ixfin f) := (tabT_cons (k := 31) ok_fin1 tabT_nil)
def st_ixfin2 (s0n : Nat) (t7 : Int) (t8 : Int) (rw0 : Bool) (l0 : List Nat) : St := ⟨(.sl 0 0 s0n :: .fn 31 :: .any :: .any :: .any :: .any :: .any :: .int .i64 t7 :: .int .i64 t8 :: (anys 10 [])), [.at rw0 (.fl .f32 l0)]⟩
abbrev kp_ixfin2 : Option (List Nat × List Nat) := some ([0, 1, 7, 8], [4])
noncomputable def lp_ixfin2 {R : Type} (N M : Nat) (s : St) (K : X → St → Option R) : Option R := loopH 1 kp_ixfin2 (fun st K => exec ty tab_ixfin an_ixfin N 1 (atOf [true, false, true, false, false] Try.f32) st K) M s K
noncomputable def kt_ixfin2 {R : Type} (N : Nat) (K : X → St → Option R) : X → St → Option R := kBlkR 0 (kSeqR tab_ixfin an_ixfin N 1 (atOf [true, true] Try.f32) (K))
def en_ixfin2_0 (t4 : Int) (rw0 : Bool) (l0 : List Nat) : St := ⟨(.any :: .any :: .any :: .any :: .int .i64 t4 :: (anys 14 [])), [.at rw0 (.fl .f32 l0)]⟩
def en_ixfin2_1 (rw0 : Bool) (l0 : List Nat) : St := ⟨(anys 19 []), [.at rw0 (.fl .f32 l0)]⟩
theorem run_ixfin (N : Nat) (n : Nat) (rw : Bool) (l : List Nat) : run ty tab_ixfin an_ixfin N Try.f32 [.sl 0 0 n, .fn 31] [.at rw (.fl .f32 l)]
    = lp_ixfin2 N N (st_ixfin2 n ((n : Nat) : Int) 0 rw l) (kt_ixfin2 N (kEnd Try.f32 1)) := by
  kernel_rfl
theorem step_ixfin2 {R : Type} (N M : Nat) (K : X → St → Option R) (s0n : Nat) (t7 : Int) (t8 : Int) (rw0 : Bool) (l0 : List Nat) : lp_ixfin2 N (M + 1) (st_ixfin2 s0n t7 t8 rw0 l0) K
    = (match decide ((t8 : Int) < t7) with | true => (match decide (0 ≤ (t8 : Int) ∧ (t8 : Int) < ((s0n : Nat) : Int)) with | true => (match l0[0 + (t8).toNat * 1]? with | some e1 => (match !finB e1 with | true => K .ret (en_ixfin2_0 t8 rw0 l0) | false => lp_ixfin2 N M (st_ixfin2 s0n t7 (IntKind.i64.wrap (t8 + 1)) rw0 l0) K) | none => none) | false => none) | false => K (.exit 0) (en_ixfin2_1 rw0 l0)) := by
  kernel_rfl
theorem end_ixfin2_0 (N : Nat) (t4 : Int) (rw0 : Bool) (l0 : List Nat) : kt_ixfin2 N (kEnd Try.f32 1) .ret (en_ixfin2_0 t4 rw0 l0)
    = some (.int .i64 t4, [.at rw0 (.fl .f32 l0)]) := by
  kernel_rfl
theorem end_ixfin2_1 (N : Nat) (rw0 : Bool) (l0 : List Nat) : kt_ixfin2 N (kEnd Try.f32 1) (.exit 0) (en_ixfin2_1 rw0 l0)
    = some (.int .i64 (-1), [.at rw0 (.fl .f32 l0)]) := by
  kernel_rfl
theorem ok_ixfin : FnT Try.prog 32 (gIxT 31 (fun x => !finB x)) := by
  refine fnT tabok_ixfin Try.func32 rfl rfl an_ixfin fun vs h v h' e => ?_
  unfold gIxT at e
  split at e
  · rename_i n f' rw l
    split at e
    · rename_i hf
      subst hf
      obtain ⟨hd, e⟩ := T.pre_inv e
      obtain ⟨rfl, rfl⟩ := T.ret_inv e
      obtain ⟨rfl, hb⟩ := of_decide_eq_true hd
      refine ⟨l.length + 1, Eq.trans (run_ixfin _ _ _ _) ?_⟩
      refine Eq.trans (scan0 l (fun x => !finB x) (fun M i => lp_ixfin2 (l.length + 1) M (st_ixfin2 l.length ((l.length : Nat) : Int) i rw l) (kt_ixfin2 (l.length + 1) (kEnd Try.f32 1))) (fun j => some (.int .i64 (j : Int), [.at rw (.fl .f32 l)])) (some (.int .i64 (-1), [.at rw (.fl .f32 l)])) (fun M i x hx => ?_) (fun M => ?_)) ?_
      · have hi := lt_of_get hx
        simp only [step_ixfin2, dlt hi, din hi, ix, hx, wr (show i < 2147483648 by omega), end_ixfin2_0] <;> (cases !finB x <;> rfl)
      · simp only [step_ixfin2, dge (Nat.le_refl _), end_ixfin2_1]
      · unfold ixOf
        cases firstIx (fun x => !finB x) l 0 <;> rfl
    · exact (T.no_inv e).elim
  · split at e
    · rename_i hf
      subst hf
      obtain ⟨rfl, rfl⟩ := T.ret_inv e
      exact ⟨1, by kernel_rfl⟩
    · exact (T.no_inv e).elim
  · exact (T.no_inv e).elim
def tab_cofin : Fns := tabT [(32, gIxT 31 (fun x => !finB x))]
theorem tabok_cofin : ∀ f, FnT Try.prog f (tab_cofin f) := (tabT_cons (k := 32) ok_ixfin tabT_nil)
theorem run_cofin (N : Nat) (n : Nat) (rw : Bool) (l : List Nat) : run ty tab_cofin ann0 N Try.f28 [.sl 0 0 n, .fn 31] [.at rw (.fl .f32 l)]
    = (match decide (l.length = n ∧ n < 2147483648) with | true => some (.bool (decide ((ixOf (fun x => !finB x) l : Int) ≥ 0)), [.at rw (.fl .f32 l)]) | false => none) := by
  kernel_rfl
theorem ok_cofin : FnT Try.prog 28 (gCoT 31 (fun x => !finB x)) := by
  refine fnT tabok_cofin Try.func28 rfl rfl ann0 fun vs h v h' e => ⟨0, ?_⟩
  unfold gCoT at e
  split at e
  · split at e
    · rename_i n f' rw l hf
      subst hf
      obtain ⟨hd, e⟩ := T.pre_inv e
      obtain ⟨rfl, rfl⟩ := T.ret_inv e
      refine Eq.trans (run_cofin 0 _ _ _) ?_
      rw [hd]
    · exact (T.no_inv e).elim
  · split at e
    · rename_i hf
      subst hf
      obtain ⟨rfl, rfl⟩ := T.ret_inv e
      kernel_rfl
    · exact (T.no_inv e).elim
  · exact (T.no_inv e).elim
def tab_areFinite : Fns := tabT [(28, gCoT 31 (fun x => !finB x))]
theorem tabok_areFinite : ∀ f, FnT Try.prog f (tab_areFinite f) := (tabT_cons (k := 28) ok_cofin tabT_nil)
theorem run_areFinite (N : Nat) (n : Nat) (rw : Bool) (l : List Nat) : run ty tab_areFinite ann0 N Try.f26 [.sl 0 0 n] [.at rw (.fl .f32 l)]
    = (match decide (l.length = n ∧ n < 2147483648) with | true => some (.bool (!(decide (ixOf (fun x => !finB x) l ≥ 0))), [.at rw (.fl .f32 l)]) | false => none) := by
  kernel_rfl
theorem ok_areFinite : FnT Try.prog 26 (gAllT finB) := by
  refine fnT tabok_areFinite Try.func26 rfl rfl ann0 fun vs h v h' e => ⟨0, ?_⟩
  unfold gAllT at e
  split at e
  · obtain ⟨hd, e⟩ := T.pre_inv e
    obtain ⟨rfl, rfl⟩ := T.ret_inv e
    refine Eq.trans (run_areFinite 0 _ _ _) ?_
    rw [hd, ← ix_all finB]
  · obtain ⟨rfl, rfl⟩ := T.ret_inv e
    kernel_rfl
  · exact (T.no_inv e).elim
def tab_rot1 : Fns := tabT [(30, gT (gF1 finB))]
theorem tabok_rot1 : ∀ f, FnT Try.prog f (tab_rot1 f) := (tabT_cons (k := 30) ok_IsFinite tabT_nil)
theorem run_rot1 (N : Nat) (x : Nat) : run ty tab_rot1 ann0 N Try.f29 [.fl .f32 x] []
    = (match !(finB x) with | true => some (.bool true, []) | false => some (.bool (ltB x 0), [])) := by
  kernel_rfl
theorem ok_rot1 : FnT Try.prog 29 (gT (gF1 (fun x => !nonB x))) := by
  refine fnT tabok_rot1 Try.func29 rfl rfl ann0 fun vs h v h' e => ⟨0, ?_⟩
  rw [T.run_of] at e
  unfold gF1 at e
  split at e
  case h_2 => cases e
  rename_i x
  cases e
  refine Eq.trans (run_rot1 0 x) ?_
  show _ = some (V.bool (!nonB x), [])
  rw [← not_non]
  cases finB x <;> rfl
def an_ixrot : Ann := ⟨fun r => if r = 2 then some ([0, 1, 7, 8], [4]) else none, fun _ _ => .quiet⟩
def tab_ixrot : Fns := tabT [(29, gT (gF1 (fun x => !nonB x)))]
theorem tabok_ixrot : ∀ f, FnT Try.prog f (tab_ixrot f) := (tabT_cons (k := 29) ok_rot1 tabT_nil)
def st_ixrot2 (s0n : Nat) (t7 : Int) (t8 : Int) (rw0 : Bool) (l0 : List Nat) : St := ⟨(.sl 0 0 s0n :: .fn 29 :: .any :: .any :: .any :: .any :: .any :: .int .i64 t7 :: .int .i64 t8 :: (anys 10 [])), [.at rw0 (.fl .f32 l0)]⟩
abbrev kp_ixrot2 : Option (List Nat × List Nat) := some ([0, 1, 7, 8], [4])
noncomputable def lp_ixrot2 {R : Type} (N M : Nat) (s : St) (K : X → St → Option R) : Option R := loopH 1 kp_ixrot2 (fun st K => exec ty tab_ixrot an_ixrot N 1 (atOf [true, false, true, false, false] Try.f32) st K) M s K
noncomputable def kt_ixrot2 {R : Type} (N : Nat) (K : X → St → Option R) : X → St → Option R := kBlkR 0 (kSeqR tab_ixrot an_ixrot N 1 (atOf [true, true] Try.f32) (K))
def en_ixrot2_0 (t4 : Int) (rw0 : Bool) (l0 : List Nat) : St := ⟨(.any :: .any :: .any :: .any :: .int .i64 t4 :: (anys 14 [])), [.at rw0 (.fl .f32 l0)]⟩
def en_ixrot2_1 (rw0 : Bool) (l0 : List Nat) : St := ⟨(anys 19 []), [.at rw0 (.fl .f32 l0)]⟩
theorem run_ixrot (N : Nat) (n : Nat) (rw : Bool) (l : List Nat) : run ty tab_ixrot an_ixrot N Try.f32 [.sl 0 0 n, .fn 29] [.at rw (.fl .f32 l)]
    = lp_ixrot2 N N (st_ixrot2 n ((n : Nat) : Int) 0 rw l) (kt_ixrot2 N (kEnd Try.f32 1)) := by
  kernel_rfl
theorem step_ixrot2 {R : Type} (N M : Nat) (K : X → St → Option R) (s0n : Nat) (t7 : Int) (t8 : Int) (rw0 : Bool) (l0 : List Nat) : lp_ixrot2 N (M + 1) (st_ixrot2 s0n t7 t8 rw0 l0) K
    = (match decide ((t8 : Int) < t7) with | true => (match decide (0 ≤ (t8 : Int) ∧ (t8 : Int) < ((s0n : Nat) : Int)) with | true => (match l0[0 + (t8).toNat * 1]? with | some e1 => (match !nonB e1 with | true => K .ret (en_ixrot2_0 t8 rw0 l0) | false => lp_ixrot2 N M (st_ixrot2 s0n t7 (IntKind.i64.wrap (t8 + 1)) rw0 l0) K) | none => none) | false => none) | false => K (.exit 0) (en_ixrot2_1 rw0 l0)) := by
  kernel_rfl
theorem end_ixrot2_0 (N : Nat) (t4 : Int) (rw0 : Bool) (l0 : List Nat) : kt_ixrot2 N (kEnd Try.f32 1) .ret (en_ixrot2_0 t4 rw0 l0)
    = some (.int .i64 t4, [.at rw0 (.fl .f32 l0)]) := by
  kernel_rfl
theorem end_ixrot2_1 (N : Nat) (rw0 : Bool) (l0 : List Nat) : kt_ixrot2 N (kEnd Try.f32 1) (.exit 0) (en_ixrot2_1 rw0 l0)
    = some (.int .i64 (-1), [.at rw0 (.fl .f32 l0)]) := by
  kernel_rfl
theorem ok_ixrot : FnT Try.prog 32 (gIxT 29 (fun x => !nonB x)) := by
  refine fnT tabok_ixrot Try.func32 rfl rfl an_ixrot fun vs h v h' e => ?_
  unfold gIxT at e
  split at e
  · rename_i n f' rw l
    split at e
    · rename_i hf
      subst hf
      obtain ⟨hd, e⟩ := T.pre_inv e
      obtain ⟨rfl, rfl⟩ := T.ret_inv e
      obtain ⟨rfl, hb⟩ := of_decide_eq_true hd
      refine ⟨l.length + 1, Eq.trans (run_ixrot _ _ _ _) ?_⟩
      refine Eq.trans (scan0 l (fun x => !nonB x) (fun M i => lp_ixrot2 (l.length + 1) M (st_ixrot2 l.length ((l.length : Nat) : Int) i rw l) (kt_ixrot2 (l.length + 1) (kEnd Try.f32 1))) (fun j => some (.int .i64 (j : Int), [.at rw (.fl .f32 l)])) (some (.int .i64 (-1), [.at rw (.fl .f32 l)])) (fun M i x hx => ?_) (fun M => ?_)) ?_
      · have hi := lt_of_get hx
        simp only [step_ixrot2, dlt hi, din hi, ix, hx, wr (show i < 2147483648 by omega), end_ixrot2_0] <;> (cases !nonB x <;> rfl)
      · simp only [step_ixrot2, dge (Nat.le_refl _), end_ixrot2_1]
      · unfold ixOf
        cases firstIx (fun x => !nonB x) l 0 <;> rfl
    · exact (T.no_inv e).elim
  · split at e
    · rename_i hf
      subst hf
      obtain ⟨rfl, rfl⟩ := T.ret_inv e
      exact ⟨1, by kernel_rfl⟩
    · exact (T.no_inv e).elim
  · exact (T.no_inv e).elim
def tab_corot : Fns := tabT [(32, gIxT 29 (fun x => !nonB x))]
theorem tabok_corot : ∀ f, FnT Try.prog f (tab_corot f) := (tabT_cons (k := 32) ok_ixrot tabT_nil)
theorem run_corot (N : Nat) (n : Nat) (rw : Bool) (l : List Nat) : run ty tab_corot ann0 N Try.f28 [.sl 0 0 n, .fn 29] [.at rw (.fl .f32 l)]
    = (match decide (l.length = n ∧ n < 2147483648) with | true => some (.bool (decide ((ixOf (fun x => !nonB x) l : Int) ≥ 0)), [.at rw (.fl .f32 l)]) | false => none) := by
  kernel_rfl
theorem ok_corot : FnT Try.prog 28 (gCoT 29 (fun x => !nonB x)) := by
  refine fnT tabok_corot Try.func28 rfl rfl ann0 fun vs h v h' e => ⟨0, ?_⟩
  unfold gCoT at e
  split at e
  · split at e
    · rename_i n f' rw l hf
      subst hf
      obtain ⟨hd, e⟩ := T.pre_inv e
      obtain ⟨rfl, rfl⟩ := T.ret_inv e
      refine Eq.trans (run_corot 0 _ _ _) ?_
      rw [hd]
    · exact (T.no_inv e).elim
  · split at e
    · rename_i hf
      subst hf
      obtain ⟨rfl, rfl⟩ := T.ret_inv e
      kernel_rfl
    · exact (T.no_inv e).elim
  · exact (T.no_inv e).elim
def tab_areRotor : Fns := tabT [(28, gCoT 29 (fun x => !nonB x))]
theorem tabok_areRotor : ∀ f, FnT Try.prog f (tab_areRotor f) := (tabT_cons (k := 28) ok_corot tabT_nil)
theorem run_areRotor (N : Nat) (n : Nat) (rw : Bool) (l : List Nat) : run ty tab_areRotor ann0 N Try.f24 [.sl 0 0 n] [.at rw (.fl .f32 l)]
    = (match decide (l.length = n ∧ n < 2147483648) with | true => some (.bool (!(decide (ixOf (fun x => !nonB x) l ≥ 0))), [.at rw (.fl .f32 l)]) | false => none) := by
  kernel_rfl
theorem ok_areRotor : FnT Try.prog 24 (gAllT nonB) := by
  refine fnT tabok_areRotor Try.func24 rfl rfl ann0 fun vs h v h' e => ⟨0, ?_⟩
  unfold gAllT at e
  split at e
  · obtain ⟨hd, e⟩ := T.pre_inv e
    obtain ⟨rfl, rfl⟩ := T.ret_inv e
    refine Eq.trans (run_areRotor 0 _ _ _) ?_
    rw [hd, ← ix_all nonB]
  · obtain ⟨rfl, rfl⟩ := T.ret_inv e
    kernel_rfl
  · exact (T.no_inv e).elim
def an_l02Finite : Ann := ⟨fun r => if r = 2 then some ([0, 3], [2]) else none, fun _ _ => .quiet⟩
def tab_l02Finite : Fns := tabT [(27, gT (gF1 finB))]
theorem tabok_l02Finite : ∀ f, FnT Try.prog f (tab_l02Finite f) := (tabT_cons (k := 27) ok_l01Finite tabT_nil)
def st_l02Finite2 (list0n : Nat) (i3 : Int) (rw0 : Bool) (l0 : List Nat) : St := ⟨(.sl 0 0 list0n :: .any :: .any :: .int .i64 i3 :: (anys 12 [])), [.at rw0 (.fl .f32 l0)]⟩
abbrev kp_l02Finite2 : Option (List Nat × List Nat) := some ([0, 3], [2])
noncomputable def lp_l02Finite2 {R : Type} (N M : Nat) (s : St) (K : X → St → Option R) : Option R := loopH 1 kp_l02Finite2 (fun st K => exec ty tab_l02Finite an_l02Finite N 1 (atOf [true, false, true, false, false] Try.f22) st K) M s K
noncomputable def kt_l02Finite2 {R : Type} (N : Nat) (K : X → St → Option R) : X → St → Option R := kBlkR 0 (kSeqR tab_l02Finite an_l02Finite N 1 (atOf [true, true] Try.f22) (K))
def en_l02Finite2_0 (rw0 : Bool) (l0 : List Nat) : St := ⟨(.any :: .any :: .bool false :: (anys 13 [])), [.at rw0 (.fl .f32 l0)]⟩
def en_l02Finite2_1 (rw0 : Bool) (l0 : List Nat) : St := ⟨(anys 16 []), [.at rw0 (.fl .f32 l0)]⟩
theorem run_l02Finite (N : Nat) (n : Nat) (rw : Bool) (l : List Nat) : run ty tab_l02Finite an_l02Finite N Try.f22 [.sl 0 0 n] [.at rw (.fl .f32 l)]
    = lp_l02Finite2 N N (st_l02Finite2 n 0 rw l) (kt_l02Finite2 N (kEnd Try.f22 1)) := by
  kernel_rfl
theorem step_l02Finite2 {R : Type} (N M : Nat) (K : X → St → Option R) (list0n : Nat) (i3 : Int) (rw0 : Bool) (l0 : List Nat) : lp_l02Finite2 N (M + 1) (st_l02Finite2 list0n i3 rw0 l0) K
    = (match decide ((i3 : Int) < ((list0n : Nat) : Int)) with | true => (match decide (0 ≤ (i3 : Int) ∧ (i3 : Int) < ((list0n : Nat) : Int)) with | true => (match l0[0 + (i3).toNat * 1]? with | some e1 => (match !(finB e1) with | true => K .ret (en_l02Finite2_0 rw0 l0) | false => lp_l02Finite2 N M (st_l02Finite2 list0n (IntKind.i64.wrap (i3 + 1)) rw0 l0) K) | none => none) | false => none) | false => K (.exit 0) (en_l02Finite2_1 rw0 l0)) := by
  kernel_rfl
theorem end_l02Finite2_0 (N : Nat) (rw0 : Bool) (l0 : List Nat) : kt_l02Finite2 N (kEnd Try.f22 1) .ret (en_l02Finite2_0 rw0 l0)
    = some (.bool false, [.at rw0 (.fl .f32 l0)]) := by
  kernel_rfl
theorem end_l02Finite2_1 (N : Nat) (rw0 : Bool) (l0 : List Nat) : kt_l02Finite2 N (kEnd Try.f22 1) (.exit 0) (en_l02Finite2_1 rw0 l0)
    = some (.bool true, [.at rw0 (.fl .f32 l0)]) := by
  kernel_rfl
theorem ok_l02Finite : FnT Try.prog 22 (gAllT finB) := by
  refine fnT tabok_l02Finite Try.func22 rfl rfl an_l02Finite fun vs h v h' e => ?_
  unfold gAllT at e
  split at e
  · rename_i n rw l
    obtain ⟨hd, e⟩ := T.pre_inv e
    obtain ⟨rfl, rfl⟩ := T.ret_inv e
    obtain ⟨rfl, hb⟩ := of_decide_eq_true hd
    refine ⟨l.length + 1, Eq.trans (run_l02Finite _ _ _ _) ?_⟩
    refine Eq.trans (scan0 l (fun x => !finB x) (fun M i => lp_l02Finite2 (l.length + 1) M (st_l02Finite2 l.length i rw l) (kt_l02Finite2 (l.length + 1) (kEnd Try.f22 1))) (fun _ => some (.bool false, [.at rw (.fl .f32 l)])) (some (.bool true, [.at rw (.fl .f32 l)])) (fun M i x hx => ?_) (fun M => ?_)) ?_
    · have hi := lt_of_get hx
      simp only [step_l02Finite2, dlt hi, din hi, ix, hx, wr (show i < 2147483648 by omega), end_l02Finite2_0] <;> (cases !finB x <;> rfl)
    · simp only [step_l02Finite2, dge (Nat.le_refl _), end_l02Finite2_1]
    · rw [← first_all finB l 0]
      cases firstIx (fun x => !finB x) l 0 <;> rfl
  · obtain ⟨rfl, rfl⟩ := T.ret_inv e
    exact ⟨1, by kernel_rfl⟩
  · exact (T.no_inv e).elim
def gLsT : GT := fun vs h => match vs, h with
  | [.sl 0 0 n], [.at rw (.fl .f32 l)] => .ite (decide (l.length = n ∧ n < 2147483648)) (.ite (l.all finB) (.ret (.tup [.a (.sl 0 0 n), .a (.bool true)]) [.at rw (.fl .f32 l)]) (.ret nilF [.at rw (.fl .f32 l)])) .no
  | _, _ => .no
def tab_l02List : Fns := tabT [(22, gAllT finB)]
theorem tabok_l02List : ∀ f, FnT Try.prog f (tab_l02List f) := (tabT_cons (k := 22) ok_l02Finite tabT_nil)
theorem run_l02List (N : Nat) (n : Nat) (rw : Bool) (l : List Nat) : run ty tab_l02List ann0 N Try.f13 [.sl 0 0 n] [.at rw (.fl .f32 l)]
    = (match decide (l.length = n ∧ n < 2147483648) with | true => (match !(l.all finB) with | true => some (.tup [.a (.nil), .a (.bool false)], [.at rw (.fl .f32 l)]) | false => some (.tup [.a (.sl 0 0 n), .a (.bool true)], [.at rw (.fl .f32 l)])) | false => none) := by
  kernel_rfl
theorem ok_l02List : FnT Try.prog 13 gLsT := by
  refine fnT tabok_l02List Try.func13 rfl rfl ann0 fun vs h v h' e => ⟨0, ?_⟩
  unfold gLsT at e
  split at e
  · rename_i n rw l
    obtain ⟨hd, e⟩ := T.pre_inv e
    refine Eq.trans (run_l02List 0 _ _ _) (Eq.trans ?_ e)
    rw [hd]
    show _ = T.k _ _
    simp only [T.k]
    cases l.all finB <;> rfl
  · exact (T.no_inv e).elim
def tab_checkedNumbers : Fns := tabT [(26, gAllT finB)]
theorem tabok_checkedNumbers : ∀ f, FnT Try.prog f (tab_checkedNumbers f) := (tabT_cons (k := 26) ok_areFinite tabT_nil)
theorem run_checkedNumbers (N : Nat) (n : Nat) (rw : Bool) (l : List Nat) : run ty tab_checkedNumbers ann0 N Try.f17 [.sl 0 0 n] [.at rw (.fl .f32 l)]
    = (match decide (l.length = n ∧ n < 2147483648) with | true => (match !(l.all finB) with | true => some (.tup [.a (.nil), .a (.bool false)], [.at rw (.fl .f32 l)]) | false => some (.tup [.a (.sl 0 0 n), .a (.bool true)], [.at rw (.fl .f32 l)])) | false => none) := by
  kernel_rfl
theorem ok_checkedNumbers : FnT Try.prog 17 gLsT := by
  refine fnT tabok_checkedNumbers Try.func17 rfl rfl ann0 fun vs h v h' e => ⟨0, ?_⟩
  unfold gLsT at e
  split at e
  · rename_i n rw l
    obtain ⟨hd, e⟩ := T.pre_inv e
    refine Eq.trans (run_checkedNumbers 0 _ _ _) (Eq.trans ?_ e)
    rw [hd]
    show _ = T.k _ _
    simp only [T.k]
    cases l.all finB <;> rfl
  · exact (T.no_inv e).elim
theorem bne_order (a b : Nat) : (FloatKind.f64.format.order a b != some .eq) = !eqD a b := rfl
def tab_sameFloat : Fns := tabT []
theorem tabok_sameFloat : ∀ f, FnT Try.prog f (tab_sameFloat f) := tabT_nil
theorem run_sameFloat (N : Nat) (a : Nat) (b : Nat) : run ty tab_sameFloat ann0 N Try.f18 [.fl .f64 a, .fl .f64 b] []
    = (match FloatKind.f64.format.order a a != some .eq with | true => (match FloatKind.f64.format.order a a != some .eq with | true => some (.bool (FloatKind.f64.format.order b b != some .eq), []) | false => some (.bool false, [])) | false => (match FloatKind.f64.format.order b b != some .eq with | true => (match FloatKind.f64.format.order a a != some .eq with | true => some (.bool (FloatKind.f64.format.order b b != some .eq), []) | false => some (.bool false, [])) | false => (match eqD a 0 with | true => (match eqD b 0 with | true => some (.bool ((gtD (fop .quo .f64 4607182418800017408 a) 0) == (gtD (fop .quo .f64 4607182418800017408 b) 0)), []) | false => some (.bool (eqD a b), [])) | false => some (.bool (eqD a b), [])))) := by
  kernel_rfl
theorem ok_sameFloat : FnT Try.prog 18 (gT gSame) := by
  refine fnT tabok_sameFloat Try.func18 rfl rfl ann0 fun vs h v h' e => ⟨0, ?_⟩
  rw [T.run_of] at e
  unfold gSame at e
  split at e
  case h_2 => cases e
  rename_i a b
  cases e
  refine Eq.trans (run_sameFloat 0 a b) ?_
  unfold sameB
  show _ = some (V.bool (cond (!eqD a a || !eqD b b) (!eqD a a && !eqD b b) (cond (eqD a 0 && eqD b 0) (gtD (fop .quo .f64 4607182418800017408 a) 0 == gtD (fop .quo .f64 4607182418800017408 b) 0) (eqD a b))), [])
  simp only [bne_order]
  cases eqD a a <;> cases eqD b b <;> cases eqD a 0 <;> cases eqD b 0 <;> rfl
def eqFB (l l' : List Nat) : Bool := (l.length == l'.length) && (firstIx (fun p : Nat × Nat => !sameB (up p.1) (up p.2)) (l.zip l') 0).isNone
theorem firstIx_self (l : List Nat) : ∀ i, (firstIx (fun p : Nat × Nat => !sameB (up p.1) (up p.2)) (l.zip l) i) = none := by
  induction l with
  | nil => intro i; rfl
  | cons x l ih => intro i; simp only [List.zip_cons_cons, firstIx, sameB_self, Bool.not_true]; exact ih (i + 1)
theorem eqFB_self (l : List Nat) : eqFB l l = true := by
  unfold eqFB
  rw [firstIx_self]
  simp
def gEqT : GT := fun vs h => match vs, h with
  | [.sl 0 0 n, .sl 1 0 m], [.at r1 (.fl .f32 l), .at r2 (.fl .f32 l')] => .ite (decide (l.length = n ∧ l'.length = m ∧ n < 2147483648 ∧ m < 2147483648)) (.ret (.bool (eqFB l l')) [.at r1 (.fl .f32 l), .at r2 (.fl .f32 l')]) .no
  | [.nil, .nil], [] => .ret (.bool true) []
  | _, _ => .no
theorem zip_get {l l' : List Nat} {i : Nat} {x : Nat × Nat} (h : (l.zip l')[i]? = some x) : l[i]? = some x.1 ∧ l'[i]? = some x.2 := by
  rw [List.getElem?_zip_eq_some] at h
  exact h
def an_eqF : Ann := ⟨fun r => if r = 4 then some ([0, 1, 5], [4]) else none, fun _ _ => .quiet⟩
def tab_eqF : Fns := tabT [(18, gT gSame)]
theorem tabok_eqF : ∀ f, FnT Try.prog f (tab_eqF f) := (tabT_cons (k := 18) ok_sameFloat tabT_nil)
def st_eqF4 (a0n : Nat) (b1n : Nat) (i5 : Int) (rw0 : Bool) (l0 : List Nat) (rw1 : Bool) (l1 : List Nat) : St := ⟨(.sl 0 0 a0n :: .sl 1 0 b1n :: .any :: .any :: .any :: .int .i64 i5 :: (anys 23 [])), [.at rw0 (.fl .f32 l0), .at rw1 (.fl .f32 l1)]⟩
abbrev kp_eqF4 : Option (List Nat × List Nat) := some ([0, 1, 5], [4])
noncomputable def lp_eqF4 {R : Type} (N M : Nat) (s : St) (K : X → St → Option R) : Option R := loopH 2 kp_eqF4 (fun st K => exec ty tab_eqF an_eqF N 2 (atOf [true, true, false, true, false, false] Try.f7) st K) M s K
noncomputable def kt_eqF4 {R : Type} (N : Nat) (K : X → St → Option R) : X → St → Option R := kBlkR 0 (kSeqR tab_eqF an_eqF N 2 (atOf [true, true, true] Try.f7) (K))
def en_eqF4_0 (rw0 : Bool) (l0 : List Nat) (rw1 : Bool) (l1 : List Nat) : St := ⟨(.any :: .any :: .any :: .any :: .bool false :: (anys 24 [])), [.at rw0 (.fl .f32 l0), .at rw1 (.fl .f32 l1)]⟩
def en_eqF4_1 (rw0 : Bool) (l0 : List Nat) (rw1 : Bool) (l1 : List Nat) : St := ⟨(anys 29 []), [.at rw0 (.fl .f32 l0), .at rw1 (.fl .f32 l1)]⟩
theorem run_eqF (N : Nat) (n : Nat) (m : Nat) (r1 : Bool) (l : List Nat) (r2 : Bool) (l' : List Nat) : run ty tab_eqF an_eqF N Try.f7 [.sl 0 0 n, .sl 1 0 m] [.at r1 (.fl .f32 l), .at r2 (.fl .f32 l')]
    = (match ((n : Nat) : Int) != ((m : Nat) : Int) with | true => some (.bool false, [.at r1 (.fl .f32 l), .at r2 (.fl .f32 l')]) | false => lp_eqF4 N N (st_eqF4 n m 0 r1 l r2 l') (kt_eqF4 N (kEnd Try.f7 2))) := by
  kernel_rfl
theorem step_eqF4 {R : Type} (N M : Nat) (K : X → St → Option R) (a0n : Nat) (b1n : Nat) (i5 : Int) (rw0 : Bool) (l0 : List Nat) (rw1 : Bool) (l1 : List Nat) : lp_eqF4 N (M + 1) (st_eqF4 a0n b1n i5 rw0 l0 rw1 l1) K
    = (match decide ((i5 : Int) < ((a0n : Nat) : Int)) with | true => (match decide (0 ≤ (i5 : Int) ∧ (i5 : Int) < ((a0n : Nat) : Int)) with | true => (match l0[0 + (i5).toNat * 1]? with | some e1 => (match fconv .f32 e1 .f64 with | some c2 => (match decide (0 ≤ (i5 : Int) ∧ (i5 : Int) < ((b1n : Nat) : Int)) with | true => (match l1[0 + (i5).toNat * 1]? with | some e3 => (match fconv .f32 e3 .f64 with | some c4 => (match !(sameB c2 c4) with | true => K .ret (en_eqF4_0 rw0 l0 rw1 l1) | false => lp_eqF4 N M (st_eqF4 a0n b1n (IntKind.i64.wrap (i5 + 1)) rw0 l0 rw1 l1) K) | none => none) | none => none) | false => none) | none => none) | none => none) | false => none) | false => K (.exit 0) (en_eqF4_1 rw0 l0 rw1 l1)) := by
  kernel_rfl
theorem end_eqF4_0 (N : Nat) (rw0 : Bool) (l0 : List Nat) (rw1 : Bool) (l1 : List Nat) : kt_eqF4 N (kEnd Try.f7 2) .ret (en_eqF4_0 rw0 l0 rw1 l1)
    = some (.bool false, [.at rw0 (.fl .f32 l0), .at rw1 (.fl .f32 l1)]) := by
  kernel_rfl
theorem end_eqF4_1 (N : Nat) (rw0 : Bool) (l0 : List Nat) (rw1 : Bool) (l1 : List Nat) : kt_eqF4 N (kEnd Try.f7 2) (.exit 0) (en_eqF4_1 rw0 l0 rw1 l1)
    = some (.bool true, [.at rw0 (.fl .f32 l0), .at rw1 (.fl .f32 l1)]) := by
  kernel_rfl
theorem ok_eqF : FnT Try.prog 7 gEqT := by
  refine fnT tabok_eqF Try.func7 rfl rfl an_eqF fun vs h v h' e => ?_
  unfold gEqT at e
  split at e
  · rename_i n m r1 l r2 l'
    obtain ⟨hd, e⟩ := T.pre_inv e
    obtain ⟨rfl, rfl⟩ := T.ret_inv e
    obtain ⟨rfl, rfl, hb, hb'⟩ := of_decide_eq_true hd
    refine ⟨l.length + 1, Eq.trans (run_eqF _ _ _ _ _ _ _) ?_⟩
    unfold eqFB
    by_cases hl : l.length = l'.length
    · rw [show ((l.length : Int) != (l'.length : Int)) = false by simp; omega, show (l.length == l'.length) = true by simpa using hl]
      have hz : (l.zip l').length = l.length := by simp; omega
      refine Eq.trans (b := match firstIx (fun p : Nat × Nat => !sameB (up p.1) (up p.2)) (l.zip l') 0 with | some _ => some (.bool false, [.at r1 (.fl .f32 l), .at r2 (.fl .f32 l')]) | none => some (.bool true, [.at r1 (.fl .f32 l), .at r2 (.fl .f32 l')])) ?_ (by cases firstIx (fun p : Nat × Nat => !sameB (up p.1) (up p.2)) (l.zip l') 0 <;> rfl)
      have hs := scan0 (l.zip l') (fun p : Nat × Nat => !sameB (up p.1) (up p.2)) (fun M i => lp_eqF4 (l.length + 1) M (st_eqF4 l.length l'.length i r1 l r2 l') (kt_eqF4 (l.length + 1) (kEnd Try.f7 2))) (fun _ => some (.bool false, [.at r1 (.fl .f32 l), .at r2 (.fl .f32 l')])) (some (.bool true, [.at r1 (.fl .f32 l), .at r2 (.fl .f32 l')])) (fun M i x hx => ?_) (fun M => ?_)
      · rw [hz] at hs
        exact hs
      · have hi := lt_of_get hx
        rw [hz] at hi
        obtain ⟨h1, h2⟩ := zip_get hx
        simp only [step_eqF4, dlt hi, din hi, din (show i < l'.length by omega), ix, h1, h2, fconv_eq, wr (show i < 2147483648 by omega), end_eqF4_0] <;> (cases !sameB (up x.1) (up x.2) <;> rfl)
      · rw [hz]
        simp only [step_eqF4, dge (Nat.le_refl _), end_eqF4_1]
    · rw [show ((l.length : Int) != (l'.length : Int)) = true by simp; omega, show (l.length == l'.length) = false by simpa using hl]
      rfl
  · obtain ⟨rfl, rfl⟩ := T.ret_inv e
    exact ⟨1, by kernel_rfl⟩
  · exact (T.no_inv e).elim
def gMarkT : GT := fun vs h => match vs, h with
  | [.sl 0 0 n, .int .i64 k], [.at true (.fl .f32 l)] => .ite (decide (l.length = n ∧ n < 2147483648 ∧ 0 ≤ k ∧ k.toNat < 2147483648)) (.ret (.int .i64 (k + (n : Int))) [.at true (.fl .f32 (marks k n))]) .no
  | [.nil, .int .i64 k], [] => .ret (.int .i64 k) []
  | _, _ => .no
def gHeldT : GT := fun vs h => match vs, h with
  | [.sl 0 0 n, .int .i64 k], [.at rw (.fl .f32 l)] => .ite (decide (l = marks k n ∧ n < 2147483648 ∧ 0 ≤ k ∧ k < 2147483648)) (.ret (.int .i64 (k + (n : Int))) [.at rw (.fl .f32 l)]) .no
  | [.nil, .int .i64 k], [] => .ret (.int .i64 k) []
  | _, _ => .no
def an_markF : Ann := ⟨fun r => if r = 2 then some ([0, 1, 5], [1]) else none, fun _ _ => .quiet⟩
def tab_markF : Fns := tabT []
theorem tabok_markF : ∀ f, FnT Try.prog f (tab_markF f) := tabT_nil
def st_markF2 (a0n : Nat) (k1 : Int) (i5 : Int) (l0 : List Nat) : St := ⟨(.sl 0 0 a0n :: .int .i64 k1 :: .any :: .any :: .any :: .int .i64 i5 :: (anys 14 [])), [.at true (.fl .f32 l0)]⟩
abbrev kp_markF2 : Option (List Nat × List Nat) := some ([0, 1, 5], [1])
noncomputable def lp_markF2 {R : Type} (N M : Nat) (s : St) (K : X → St → Option R) : Option R := loopH 1 kp_markF2 (fun st K => exec ty tab_markF an_markF N 1 (atOf [true, false, true, false, false] Try.f8) st K) M s K
noncomputable def kt_markF2 {R : Type} (N : Nat) (K : X → St → Option R) : X → St → Option R := kBlkR 0 (kSeqR tab_markF an_markF N 1 (atOf [true, true] Try.f8) (K))
def en_markF2_0 (k1 : Int) (l0 : List Nat) : St := ⟨(.any :: .int .i64 k1 :: (anys 18 [])), [.at true (.fl .f32 l0)]⟩
theorem run_markF (N : Nat) (n : Nat) (k : Int) (l : List Nat) : run ty tab_markF an_markF N Try.f8 [.sl 0 0 n, .int .i64 k] [.at true (.fl .f32 l)]
    = lp_markF2 N N (st_markF2 n k 0 l) (kt_markF2 N (kEnd Try.f8 1)) := by
  kernel_rfl
theorem step_markF2 {R : Type} (N M : Nat) (K : X → St → Option R) (a0n : Nat) (k1 : Int) (i5 : Int) (l0 : List Nat) : lp_markF2 N (M + 1) (st_markF2 a0n k1 i5 l0) K
    = (match decide ((i5 : Int) < ((a0n : Nat) : Int)) with | true => (match decide (0 ≤ (i5 : Int) ∧ (i5 : Int) < ((a0n : Nat) : Int)) with | true => (match decide (0 + (i5).toNat * 1 < l0.length) with | true => lp_markF2 N M (st_markF2 a0n (IntKind.i64.wrap (k1 + 1)) (IntKind.i64.wrap (i5 + 1)) (l0.set (0 + (i5).toNat * 1) (floatOfInt .f32 k1))) K | false => none) | false => none) | false => K (.exit 0) (en_markF2_0 k1 l0)) := by
  kernel_rfl
theorem end_markF2_0 (N : Nat) (k1 : Int) (l0 : List Nat) : kt_markF2 N (kEnd Try.f8 1) (.exit 0) (en_markF2_0 k1 l0)
    = some (.int .i64 k1, [.at true (.fl .f32 l0)]) := by
  kernel_rfl
theorem ok_markF : FnT Try.prog 8 gMarkT := by
  refine fnT tabok_markF Try.func8 rfl rfl an_markF fun vs h v h' e => ?_
  unfold gMarkT at e
  split at e
  · rename_i n k l
    obtain ⟨hd, e⟩ := T.pre_inv e
    obtain ⟨rfl, rfl⟩ := T.ret_inv e
    obtain ⟨rfl, hb, hk, hk'⟩ := of_decide_eq_true hd
    refine ⟨l.length + 1, Eq.trans (run_markF _ _ _ _) ?_⟩
    have hc := count_up l.length (fun i (s : Int × List Nat) => (s.1 + 1, s.2.set i (floatOfInt .f32 s.1))) (fun M i s => lp_markF2 (l.length + 1) M (st_markF2 l.length s.1 (i : Int) s.2) (kt_markF2 (l.length + 1) (kEnd Try.f8 1))) (fun s => some (.int .i64 s.1, [.at true (.fl .f32 s.2)])) (fun i s => s.1 = k + (i : Int) ∧ s.2.length = l.length)
      (fun M i s hi hv => ?_) (fun M s hv => ?_) l.length 0 (k, l) (by omega) ⟨by simp, rfl⟩ 0
    · rw [mark_all k l _ rfl, show l.length + 1 + 0 = l.length + 1 by omega] at hc
      exact hc
    · refine ⟨?_, by dsimp only; rw [hv.1]; omega, by simp [hv.2]⟩
      simp only [step_markF2, dlt hi, din hi, ix, decide_eq_true (show i < s.2.length by rw [hv.2]; exact hi), wr (show i < 2147483648 by omega), wrap_s (show 0 ≤ s.1 + 1 by rw [hv.1]; omega) (by rw [hv.1]; omega)]
    · simp only [step_markF2, dge (Nat.le_refl _), end_markF2_0]
  · obtain ⟨rfl, rfl⟩ := T.ret_inv e
    exact ⟨1, by kernel_rfl⟩
  · exact (T.no_inv e).elim
def an_heldF : Ann := ⟨fun r => if r = 2 then some ([0, 1, 5], [1, 4]) else none, fun _ _ => .quiet⟩
def tab_heldF : Fns := tabT []
theorem tabok_heldF : ∀ f, FnT Try.prog f (tab_heldF f) := tabT_nil
def st_heldF2 (a0n : Nat) (k1 : Int) (i5 : Int) (rw0 : Bool) (l0 : List Nat) : St := ⟨(.sl 0 0 a0n :: .int .i64 k1 :: .any :: .any :: .any :: .int .i64 i5 :: (anys 16 [])), [.at rw0 (.fl .f32 l0)]⟩
abbrev kp_heldF2 : Option (List Nat × List Nat) := some ([0, 1, 5], [1, 4])
noncomputable def lp_heldF2 {R : Type} (N M : Nat) (s : St) (K : X → St → Option R) : Option R := loopH 1 kp_heldF2 (fun st K => exec ty tab_heldF an_heldF N 1 (atOf [true, false, true, false, false] Try.f9) st K) M s K
noncomputable def kt_heldF2 {R : Type} (N : Nat) (K : X → St → Option R) : X → St → Option R := kBlkR 0 (kSeqR tab_heldF an_heldF N 1 (atOf [true, true] Try.f9) (K))
def en_heldF2_0 (k1 : Int) (rw0 : Bool) (l0 : List Nat) : St := ⟨(.any :: .int .i64 k1 :: .any :: .any :: .int .i64 (-1) :: (anys 17 [])), [.at rw0 (.fl .f32 l0)]⟩
def en_heldF2_1 (k1 : Int) (rw0 : Bool) (l0 : List Nat) : St := ⟨(.any :: .int .i64 k1 :: (anys 20 [])), [.at rw0 (.fl .f32 l0)]⟩
theorem run_heldF (N : Nat) (n : Nat) (k : Int) (rw : Bool) (l : List Nat) : run ty tab_heldF an_heldF N Try.f9 [.sl 0 0 n, .int .i64 k] [.at rw (.fl .f32 l)]
    = lp_heldF2 N N (st_heldF2 n k 0 rw l) (kt_heldF2 N (kEnd Try.f9 1)) := by
  kernel_rfl
theorem step_heldF2 {R : Type} (N M : Nat) (K : X → St → Option R) (a0n : Nat) (k1 : Int) (i5 : Int) (rw0 : Bool) (l0 : List Nat) : lp_heldF2 N (M + 1) (st_heldF2 a0n k1 i5 rw0 l0) K
    = (match decide ((i5 : Int) < ((a0n : Nat) : Int)) with | true => (match decide (0 ≤ (i5 : Int) ∧ (i5 : Int) < ((a0n : Nat) : Int)) with | true => (match l0[0 + (i5).toNat * 1]? with | some e1 => (match FloatKind.f32.format.order e1 (floatOfInt .f32 k1) != some .eq with | true => K .ret (en_heldF2_0 k1 rw0 l0) | false => lp_heldF2 N M (st_heldF2 a0n (IntKind.i64.wrap (k1 + 1)) (IntKind.i64.wrap (i5 + 1)) rw0 l0) K) | none => none) | false => none) | false => K (.exit 0) (en_heldF2_1 k1 rw0 l0)) := by
  kernel_rfl
theorem end_heldF2_1 (N : Nat) (k1 : Int) (rw0 : Bool) (l0 : List Nat) : kt_heldF2 N (kEnd Try.f9 1) (.exit 0) (en_heldF2_1 k1 rw0 l0)
    = some (.int .i64 k1, [.at rw0 (.fl .f32 l0)]) := by
  kernel_rfl
theorem ok_heldF : FnT Try.prog 9 gHeldT := by
  refine fnT tabok_heldF Try.func9 rfl rfl an_heldF fun vs h v h' e => ?_
  unfold gHeldT at e
  split at e
  · rename_i n k rw l
    obtain ⟨hd, e⟩ := T.pre_inv e
    obtain ⟨rfl, rfl⟩ := T.ret_inv e
    obtain ⟨rfl, hb, hk, hk'⟩ := of_decide_eq_true hd
    refine ⟨n + 1, Eq.trans (run_heldF _ _ _ _ _) ?_⟩
    have hc := count_up n (fun i (s : Int) => s + 1) (fun M i s => lp_heldF2 (n + 1) M (st_heldF2 n s (i : Int) rw (marks k n)) (kt_heldF2 (n + 1) (kEnd Try.f9 1))) (fun s => some (.int .i64 s, [.at rw (.fl .f32 (marks k n))])) (fun i s => s = k + (i : Int))
      (fun M i s hi hv => ?_) (fun M s hv => ?_) n 0 k (by omega) (by simp) 0
    · have hr : ∀ m i (q : Int), rounds (fun (i : Nat) (s : Int) => s + 1) m i q = q + (m : Int) := by
        intro m
        induction m with
        | zero => intro i q; simp [rounds]
        | succ m ih => intro i q; show rounds _ m _ _ = _; rw [ih]; dsimp only; omega
      rw [hr, show n + 1 + 0 = n + 1 by omega] at hc
      exact hc
    · refine ⟨?_, by rw [hv]; omega⟩
      have ho : (FloatKind.f32.format.order (floatOfInt .f32 (k + (i : Int))) (floatOfInt .f32 s) != some .eq) = false := by
        rw [← hv, order_self (isN_nearest' _ _)]
        rfl
      simp only [step_heldF2, dlt hi, din hi, ix, marks_get hi, ho, wr (show i < 2147483648 by omega), wrap_s (show 0 ≤ s + 1 by rw [hv]; omega) (by rw [hv]; omega)]
    · simp only [step_heldF2, dge (Nat.le_refl _), end_heldF2_1]
  · obtain ⟨rfl, rfl⟩ := T.ret_inv e
    exact ⟨1, by kernel_rfl⟩
  · exact (T.no_inv e).elim
theorem copy_toF : ∀ k i (l : List Nat) (pre r : List Nat), i + k = l.length → r.length = k → pre.length = i → pre = l.take i → rounds (fun i (s : List Nat) => s.set i (l.getD i 0)) k i (pre ++ r) = l
  | 0, i, l, pre, r, h, hr, hp, e => by
    have : r = [] := by simpa using hr
    subst this
    rw [e, List.append_nil]
    exact List.take_of_length_le (by omega)
  | k + 1, i, l, pre, [], h, hr, hp, e => by simp at hr
  | k + 1, i, l, pre, x :: r, h, hr, hp, e => by
    show rounds _ k (i + 1) ((pre ++ x :: r).set i (l.getD i 0)) = l
    have e2 : (pre ++ x :: r).set i (l.getD i 0) = (pre ++ [l.getD i 0]) ++ r := by
      rw [List.set_append_right _ _ (by omega)]
      simp [hp]
    rw [e2]
    refine copy_toF k (i + 1) l _ r (by omega) (by simpa using hr) (by simp [hp]) ?_
    rw [e, List.take_add_one, List.getElem?_eq_getElem (by omega)]
    simp [List.getD_eq_getElem?_getD, List.getElem?_eq_getElem (show i < l.length by omega)]
def g_toF : GT := fun vs h => match vs, h with
  | [.sl 0 0 n], [.at rw (.fl .f32 l)] => .ite (decide (l.length = n ∧ n < 2147483648)) (.ret (.sl 1 0 n) [.at rw (.fl .f32 l), .at true (.fl .f32 l)]) .no
  | [.nil], [] => .ret (.sl 0 0 0) [.at true (.fl .f32 [])]
  | _, _ => .no
def an_toF : Ann := ⟨fun r => if r = 3 then some ([0, 3, 4], [3]) else none, fun _ _ => .quiet⟩
def tab_toF : Fns := tabT []
theorem tabok_toF : ∀ f, FnT Try.prog f (tab_toF f) := tabT_nil
def st_toF3 (a0n : Nat) (out3n : Nat) (i4 : Int) (rw0 : Bool) (l0 : List Nat) (l1 : List Nat) : St := ⟨(.sl 0 0 a0n :: .any :: .any :: .sl 1 0 out3n :: .int .i64 i4 :: (anys 17 [])), [.at rw0 (.fl .f32 l0), .at true (.fl .f32 l1)]⟩
abbrev kp_toF3 : Option (List Nat × List Nat) := some ([0, 3, 4], [3])
noncomputable def lp_toF3 {R : Type} (N M : Nat) (s : St) (K : X → St → Option R) : Option R := loopH 1 kp_toF3 (fun st K => exec ty tab_toF an_toF N 1 (atOf [true, true, false, true, false, false] Try.f5) st K) M s K
noncomputable def kt_toF3 {R : Type} (N : Nat) (K : X → St → Option R) : X → St → Option R := kBlkR 0 (kSeqR tab_toF an_toF N 1 (atOf [true, true, true] Try.f5) (K))
def en_toF3_0 (out3n : Nat) (rw0 : Bool) (l0 : List Nat) (l1 : List Nat) : St := ⟨(.any :: .any :: .any :: .sl 1 0 out3n :: (anys 18 [])), [.at rw0 (.fl .f32 l0), .at true (.fl .f32 l1)]⟩
theorem run_toF (N : Nat) (n : Nat) (rw : Bool) (l : List Nat) : run ty tab_toF an_toF N Try.f5 [.sl 0 0 n] [.at rw (.fl .f32 l)]
    = (match decide (0 ≤ (((n : Nat) : Int) : Int) ∧ (((n : Nat) : Int) : Int) ≤ ((n : Nat) : Int) ∧ (((n : Nat) : Int) : Int) ≤ 9223372036854775807 ∧ (((n : Nat) : Int) : Int).toNat * 4 ≤ 140737488355328 ∧ 0 < 1 ∧ 1 = 1) with | true => lp_toF3 N N (st_toF3 n ((((n : Nat) : Int) : Int).toNat) 0 rw l (List.replicate ((((n : Nat) : Int) : Int).toNat) 0)) (kt_toF3 N (kEnd Try.f5 1)) | false => none) := by
  kernel_rfl
theorem step_toF3 {R : Type} (N M : Nat) (K : X → St → Option R) (a0n : Nat) (out3n : Nat) (i4 : Int) (rw0 : Bool) (l0 : List Nat) (l1 : List Nat) : lp_toF3 N (M + 1) (st_toF3 a0n out3n i4 rw0 l0 l1) K
    = (match decide ((i4 : Int) < ((a0n : Nat) : Int)) with | true => (match decide (0 ≤ (i4 : Int) ∧ (i4 : Int) < ((a0n : Nat) : Int)) with | true => (match l0[0 + (i4).toNat * 1]? with | some e1 => (match decide (0 ≤ (i4 : Int) ∧ (i4 : Int) < ((out3n : Nat) : Int)) with | true => (match decide (0 + (i4).toNat * 1 < l1.length) with | true => lp_toF3 N M (st_toF3 a0n out3n (IntKind.i64.wrap (i4 + 1)) rw0 l0 (l1.set (0 + (i4).toNat * 1) e1)) K | false => none) | false => none) | none => none) | false => none) | false => K (.exit 0) (en_toF3_0 out3n rw0 l0 l1)) := by
  kernel_rfl
theorem end_toF3_0 (N : Nat) (out3n : Nat) (rw0 : Bool) (l0 : List Nat) (l1 : List Nat) : kt_toF3 N (kEnd Try.f5 1) (.exit 0) (en_toF3_0 out3n rw0 l0 l1)
    = some (.sl 1 0 out3n, [.at rw0 (.fl .f32 l0), .at true (.fl .f32 l1)]) := by
  kernel_rfl
theorem ok_toF : FnT Try.prog 5 g_toF := by
  refine fnT tabok_toF Try.func5 rfl rfl an_toF fun vs h v h' e => ?_
  unfold g_toF at e
  split at e
  · rename_i n rw l
    obtain ⟨hd, e⟩ := T.pre_inv e
    obtain ⟨rfl, rfl⟩ := T.ret_inv e
    obtain ⟨rfl, hb⟩ := of_decide_eq_true hd
    refine ⟨l.length + 1, Eq.trans (run_toF _ _ _ _) ?_⟩
    rw [decide_eq_true (show 0 ≤ (((l.length : Nat) : Int) : Int) ∧ (((l.length : Nat) : Int) : Int) ≤ ((l.length : Nat) : Int) ∧ (((l.length : Nat) : Int) : Int) ≤ 9223372036854775807 ∧ (((l.length : Nat) : Int) : Int).toNat * 4 ≤ 140737488355328 ∧ 0 < 1 ∧ 1 = 1 by omega)]
    rw [show (((l.length : Nat) : Int) : Int).toNat = l.length from rfl]
    have hc := count_up l.length (fun i (s : List Nat) => s.set i (l.getD i 0)) (fun M i s => lp_toF3 (l.length + 1) M (st_toF3 l.length l.length (i : Int) rw l s) (kt_toF3 (l.length + 1) (kEnd Try.f5 1))) (fun s => some (.sl 1 0 l.length, [.at rw (.fl .f32 l), .at true (.fl .f32 s)])) (fun _ s => s.length = l.length)
      (fun M i s hi hv => ?_) (fun M s hv => ?_) l.length 0 (List.replicate l.length 0) (by omega) (by simp) 0
    · rw [show List.replicate l.length (0 : Nat) = [] ++ List.replicate l.length 0 from rfl, copy_toF l.length 0 l [] (List.replicate l.length 0) (by omega) (by simp) rfl rfl] at hc
      exact hc
    · have hg : l[i]? = some (l.getD i 0) := by simp [List.getD_eq_getElem?_getD, hi]
      refine ⟨?_, by simpa using hv⟩
      simp only [step_toF3, dlt hi, din hi, ix, hg, decide_eq_true (show i < s.length by omega), wr (show i < 2147483648 by omega)]
    · simp only [step_toF3, dge (Nat.le_refl _), end_toF3_0]
  · obtain ⟨rfl, rfl⟩ := T.ret_inv e
    exact ⟨1, by kernel_rfl⟩
  · exact (T.no_inv e).elim
end Go.Proofs.Ytppdnhjcnjfppaa.Ab

namespace Go.Proofs.Ytppdnhjcnjfppaa.Ab
set_option linter.unusedVariables false
set_option linter.unusedSimpArgs false
open Go
theorem inB_iff {n lo hi : Int} : inB n lo hi = true ↔ lo ≤ n ∧ n ≤ hi := by
  simp only [inB, Bool.and_eq_true, decide_eq_true_eq, ge_iff_le]
theorem wrap_m {n : Int} (h : -1000000 ≤ n) (h2 : n ≤ 1000000) : IntKind.i64.wrap n = n := wrap_z (by omega) (by omega)
theorem getD_some' {l : List Nat} {i : Nat} (h : i < l.length) : l[i]? = some (l.getD i 0) := by simp [List.getD_eq_getElem?_getD, h]
def diagB (N : Nat) (l : List Nat) : Bool := (List.range N).all fun j => eqB (l.getD (j * N + j) 0) 0
def ratesB (n : Int) (l : List Nat) : Bool := inB n 1 6 && (decide (((l.length : Nat) : Int) = n * n) && (l.all nonB && diagB n.toNat l))
def gRates : GT := fun vs h => match vs, h with | [.int .i64 n, .sl 0 0 m], [.at rw (.fl .f32 l)] => .ite (decide (l.length = m ∧ m < 2147483648)) (.ret (.bool (ratesB n l)) [.at rw (.fl .f32 l)]) .no | _, _ => .no
theorem sq_of {N m : Nat} (h1 : 1 ≤ N) (h6 : N ≤ 6) : (IntKind.i64.wrap ((N : Int) * (N : Int)) = ((N * N : Nat) : Int)) ∧ N * N ≤ 36 := by
  have : N = 1 ∨ N = 2 ∨ N = 3 ∨ N = 4 ∨ N = 5 ∨ N = 6 := by omega
  rcases this with rfl | rfl | rfl | rfl | rfl | rfl <;> decide
theorem neq_dec (a b : Int) : (a != b) = !decide (a = b) := by
  by_cases h : a = b
  · subst h; simp
  · simp [h]
theorem first_any {α : Type} (t : α → Bool) : ∀ (l : List α) (i : Nat), (firstIx t l i).isSome = l.any t
  | [], i => rfl
  | x :: l, i => by
    unfold firstIx
    rw [List.any_cons]
    cases t x with
    | true => rfl
    | false => exact first_any t l (i + 1)
theorem scanR {R : Type} (n : Nat) (t : Nat → Bool) (L : Nat → Int → Option R) (A Z : Option R)
    (hs : ∀ (M i : Nat), i < n → L (M + 1) i = match t i with | true => A | false => L M ((i + 1 : Nat) : Int))
    (he : ∀ M, L (M + 1) (n : Nat) = Z) : L (n + 1) 0 = match (List.range n).any t with | true => A | false => Z := by
  have h := scan0 (List.range n) t L (fun _ => A) Z (fun M i x hx => by
    have hi : i < n := by have := lt_of_get hx; simpa using this
    rw [List.getElem?_range hi] at hx
    cases hx
    exact hs M i hi) (fun M => by rw [List.length_range]; exact he M)
  rw [List.length_range] at h
  rw [h, ← first_any t (List.range n) 0]
  cases firstIx t (List.range n) 0 <;> rfl
theorem eq_neB (x : Nat) : (FloatKind.f32.format.order x 0 != some .eq) = !eqB x 0 := rfl
theorem any_not {α : Type} (q : α → Bool) (l : List α) : (l.any fun x => !q x) = !(l.all q) := by
  induction l with
  | nil => rfl
  | cons x l ih => simp only [List.any_cons, List.all_cons, ih]; cases q x <;> rfl
theorem diag_any (N : Nat) (l : List Nat) : ((List.range N).any fun j => !eqB (l.getD (j * N + j) 0) 0) = !diagB N l := any_not _ _
theorem one_pass {N : Nat} {l : List Nat} (h1 : 1 ≤ N) (h6 : N ≤ 6) (hl : l.length = N * N) :
    ((List.range (N * N)).any fun i => !nonB (l.getD i 0) || (decide (i % (N + 1) = 0) && !eqB (l.getD i 0) 0)) = !(l.all nonB && diagB N l) := by
  rw [Bool.eq_iff_iff]
  rw [List.any_eq_true, Bool.not_eq_true', Bool.and_eq_false_iff]
  have hall : l.all nonB = false ↔ ∃ i, i < N * N ∧ nonB (l.getD i 0) = false := by
    constructor
    · intro h
      rw [List.all_eq_false] at h
      obtain ⟨x, hx, hn⟩ := h
      obtain ⟨i, hi⟩ := List.getElem?_of_mem hx
      have hlt := lt_of_get hi
      refine ⟨i, by omega, ?_⟩
      rw [List.getD_eq_getElem?_getD, hi, Option.getD_some]
      simpa using hn
    · rintro ⟨i, hi, hn⟩
      rw [List.all_eq_false]
      refine ⟨l.getD i 0, ?_, by rw [hn]; decide⟩
      rw [List.getD_eq_getElem?_getD, List.getElem?_eq_getElem (by omega), Option.getD_some]
      exact List.getElem_mem _
  have hdiag : diagB N l = false ↔ ∃ j, j < N ∧ eqB (l.getD (j * N + j) 0) 0 = false := by
    unfold diagB
    rw [List.all_eq_false]
    constructor
    · rintro ⟨j, hj, hn⟩
      exact ⟨j, by simpa using hj, by simpa using hn⟩
    · rintro ⟨j, hj, hn⟩
      exact ⟨j, by simpa using hj, by rw [hn]; decide⟩
  rw [hall, hdiag]
  constructor
  · rintro ⟨i, hi, ht⟩
    have hi : i < N * N := by simpa using hi
    rw [Bool.or_eq_true, Bool.and_eq_true] at ht
    rcases ht with ht | ⟨h2, h3⟩
    · exact .inl ⟨i, hi, by simpa using ht⟩
    · right
      have h2 := of_decide_eq_true h2
      have hj : ∃ j, j < N ∧ j * N + j = i := by
        refine ⟨i / (N + 1), ?_, ?_⟩
        · rw [Nat.div_lt_iff_lt_mul (by omega)]
          have : N * N ≤ N * (N + 1) := Nat.mul_le_mul_left _ (by omega)
          omega
        · have := Nat.div_add_mod i (N + 1)
          rw [h2, Nat.add_zero, Nat.mul_comm, Nat.mul_add, Nat.mul_one] at this
          exact this
      obtain ⟨j, h4, h5⟩ := hj
      exact ⟨j, h4, by rw [h5]; simpa using h3⟩
  · rintro (⟨i, hi, hn⟩ | ⟨j, hj, hn⟩)
    · exact ⟨i, by simpa using hi, by rw [hn]; rfl⟩
    · have hlt : j * N + j < N * N := by
        have : N = 1 ∨ N = 2 ∨ N = 3 ∨ N = 4 ∨ N = 5 ∨ N = 6 := by omega
        rcases this with rfl | rfl | rfl | rfl | rfl | rfl <;> omega
      refine ⟨j * N + j, by simpa using hlt, ?_⟩
      have hm : (j * N + j) % (N + 1) = 0 := by
        rw [show j * N + j = (N + 1) * j by rw [Nat.add_mul, Nat.one_mul, Nat.mul_comm]]
        exact Nat.mul_mod_right _ _
      rw [hn, hm]
      simp
def an_arI : Ann := ⟨fun r => if r = 4 then some ([0, 1, 22, 23], [4]) else none, fun _ _ => .quiet⟩
def tab_arI : Fns := tabT [(23, gT gIn), (24, gAllT nonB)]
theorem tabok_arI : ∀ f, FnT Try.prog f (tab_arI f) := (tabT_cons (k := 23) ok_within (tabT_cons (k := 24) ok_areRotor tabT_nil))
def st_arI4 (n0 : Int) (rates1n : Nat) (t23 : Int) (rw0 : Bool) (l0 : List Nat) : St := ⟨(.int .i64 n0 :: .sl 0 0 rates1n :: (anys 20 (.int .i64 n0 :: .int .i64 t23 :: (anys 12 [])))), [.at rw0 (.fl .f32 l0)]⟩
abbrev kp_arI4 : Option (List Nat × List Nat) := some ([0, 1, 22, 23], [4])
noncomputable def lp_arI4 {R : Type} (N M : Nat) (s : St) (K : X → St → Option R) : Option R := loopH 1 kp_arI4 (fun st K => exec ty tab_arI an_arI N 1 (atOf [true, true, false, true, false, false] Try.f14) st K) M s K
noncomputable def kt_arI4 {R : Type} (N : Nat) (K : X → St → Option R) : X → St → Option R := kBlkR 0 (kSeqR tab_arI an_arI N 1 (atOf [true, true, true] Try.f14) (K))
def en_arI4_0 (rw0 : Bool) (l0 : List Nat) : St := ⟨(.any :: .any :: .any :: .any :: .bool false :: (anys 31 [])), [.at rw0 (.fl .f32 l0)]⟩
def en_arI4_1 (rw0 : Bool) (l0 : List Nat) : St := ⟨(anys 36 []), [.at rw0 (.fl .f32 l0)]⟩
theorem run_arI (N : Nat) (n : Int) (m : Nat) (rw : Bool) (l : List Nat) : run ty tab_arI an_arI N Try.f14 [.int .i64 n, .sl 0 0 m] [.at rw (.fl .f32 l)]
    = (match !(inB n 1 6) with | true => some (.bool false, [.at rw (.fl .f32 l)]) | false => (match ((m : Nat) : Int) != (IntKind.i64.wrap (n * n)) with | true => some (.bool false, [.at rw (.fl .f32 l)]) | false => (match decide (l.length = m ∧ m < 2147483648) with | true => (match !(l.all nonB) with | true => some (.bool false, [.at rw (.fl .f32 l)]) | false => lp_arI4 N N (st_arI4 n m 0 rw l) (kt_arI4 N (kEnd Try.f14 1))) | false => none))) := by
  kernel_rfl
theorem step_arI4 {R : Type} (N M : Nat) (K : X → St → Option R) (n0 : Int) (rates1n : Nat) (t23 : Int) (rw0 : Bool) (l0 : List Nat) : lp_arI4 N (M + 1) (st_arI4 n0 rates1n t23 rw0 l0) K
    = (match decide ((t23 : Int) < n0) with | true => (match decide (0 ≤ (IntKind.i64.wrap ((IntKind.i64.wrap (t23 * n0)) + t23) : Int) ∧ (IntKind.i64.wrap ((IntKind.i64.wrap (t23 * n0)) + t23) : Int) < ((rates1n : Nat) : Int)) with | true => (match l0[0 + (IntKind.i64.wrap ((IntKind.i64.wrap (t23 * n0)) + t23)).toNat * 1]? with | some e1 => (match FloatKind.f32.format.order e1 0 != some .eq with | true => K .ret (en_arI4_0 rw0 l0) | false => lp_arI4 N M (st_arI4 n0 rates1n (IntKind.i64.wrap (t23 + 1)) rw0 l0) K) | none => none) | false => none) | false => K (.exit 0) (en_arI4_1 rw0 l0)) := by
  kernel_rfl
theorem end_arI4_0 (N : Nat) (rw0 : Bool) (l0 : List Nat) : kt_arI4 N (kEnd Try.f14 1) .ret (en_arI4_0 rw0 l0)
    = some (.bool false, [.at rw0 (.fl .f32 l0)]) := by
  kernel_rfl
theorem end_arI4_1 (N : Nat) (rw0 : Bool) (l0 : List Nat) : kt_arI4 N (kEnd Try.f14 1) (.exit 0) (en_arI4_1 rw0 l0)
    = some (.bool true, [.at rw0 (.fl .f32 l0)]) := by
  kernel_rfl
theorem ok_arI : FnT Try.prog 14 gRates := by
  refine fnT tabok_arI Try.func14 rfl rfl an_arI fun vs h v h' e => ⟨40, ?_⟩
  unfold gRates at e
  split at e
  case h_2 => exact (T.no_inv e).elim
  rename_i n m rw l
  obtain ⟨hd, e⟩ := T.pre_inv e
  obtain ⟨rfl, rfl⟩ := T.ret_inv e
  obtain ⟨rfl, hb⟩ := of_decide_eq_true hd
  refine Eq.trans (run_arI 40 _ _ _ _) ?_
  unfold ratesB
  cases hin : inB n 1 6 with
  | false => rfl
  | true =>
    have hin' := inB_iff.mp hin
    obtain ⟨N, rfl⟩ : ∃ N : Nat, n = (N : Int) := ⟨n.toNat, by omega⟩
    obtain ⟨hw, h36⟩ := sq_of (m := 0) (show 1 ≤ N by omega) (by omega)
    rw [hw, neq_dec, Int.toNat_natCast]
    have hNN : ((N : Int) * (N : Int)) = ((N * N : Nat) : Int) := (Int.natCast_mul _ _).symm
    rw [hNN]
    by_cases hlen : l.length = N * N
    case neg =>
      rw [decide_eq_false (show ¬ ((l.length : Nat) : Int) = ((N * N : Nat) : Int) by omega)]
      rfl
    rw [decide_eq_true (show ((l.length : Nat) : Int) = ((N * N : Nat) : Int) by omega)]
    try dsimp only [Bool.not_true]
    try dsimp only
    rw [hd]
    try dsimp only
    cases hall : l.all nonB with
    | false => rfl
    | true =>
      try dsimp only [Bool.not_true]
      have hs := scanR N (fun j => !eqB (l.getD (j * N + j) 0) 0) (fun M i => lp_arI4 40 (M + (39 - N)) (st_arI4 (N : Int) l.length i rw l) (kt_arI4 40 (kEnd Try.f14 1))) (some (.bool false, [.at rw (.fl .f32 l)])) (some (.bool true, [.at rw (.fl .f32 l)])) (fun M i hi => ?_) (fun M => ?_)
      · rw [show N + 1 + (39 - N) = 40 by omega] at hs
        refine Eq.trans hs ?_
        rw [diag_any]
        cases diagB N l <;> rfl
      · have hij : i * N + i < N * N := by
          have : N = 1 ∨ N = 2 ∨ N = 3 ∨ N = 4 ∨ N = 5 ∨ N = 6 := by omega
          rcases this with rfl | rfl | rfl | rfl | rfl | rfl <;> omega
        have hmul : ((i : Int) * (N : Int)) = ((i * N : Nat) : Int) := (Int.natCast_mul _ _).symm
        have w1 : IntKind.i64.wrap ((i : Int) * (N : Int)) = ((i * N : Nat) : Int) := by rw [hmul]; exact wrap_m (by omega) (by omega)
        have w2 : IntKind.i64.wrap (((i * N : Nat) : Int) + (i : Int)) = ((i * N + i : Nat) : Int) := by rw [wrap_m (by omega) (by omega)]; omega
        rw [show M + 1 + (39 - N) = (M + (39 - N)) + 1 by omega, step_arI4]
        rw [dlt hi, w1, w2, din (show i * N + i < l.length by omega), ix, getD_some' (show i * N + i < l.length by omega), wr (show i < 2147483648 by omega)]
        try dsimp only
        rw [eq_neB, end_arI4_0]
      · rw [show M + 1 + (39 - N) = (M + (39 - N)) + 1 by omega, step_arI4]
        rw [dge (Nat.le_refl _), end_arI4_1]
def an_arS : Ann := ⟨fun r => if r = 4 then some ([0, 1, 5], [4]) else none, fun _ _ => .quiet⟩
def tab_arS : Fns := tabT [(19, gT gIn), (20, gT (gF1 nonB))]
theorem tabok_arS : ∀ f, FnT Try.prog f (tab_arS f) := (tabT_cons (k := 19) ok_l00In (tabT_cons (k := 20) ok_l02Least tabT_nil))
def st_arS4 (n0 : Int) (rates1n : Nat) (i5 : Int) (rw0 : Bool) (l0 : List Nat) : St := ⟨(.int .i64 n0 :: .sl 0 0 rates1n :: .any :: .any :: .any :: .int .i64 i5 :: (anys 38 [])), [.at rw0 (.fl .f32 l0)]⟩
abbrev kp_arS4 : Option (List Nat × List Nat) := some ([0, 1, 5], [4])
noncomputable def lp_arS4 {R : Type} (N M : Nat) (s : St) (K : X → St → Option R) : Option R := loopH 1 kp_arS4 (fun st K => exec ty tab_arS an_arS N 1 (atOf [true, true, false, true, false, false] Try.f10) st K) M s K
noncomputable def kt_arS4 {R : Type} (N : Nat) (K : X → St → Option R) : X → St → Option R := kBlkR 0 (kSeqR tab_arS an_arS N 1 (atOf [true, true, true] Try.f10) (K))
def en_arS4_0 (rw0 : Bool) (l0 : List Nat) : St := ⟨(.any :: .any :: .any :: .any :: .bool false :: (anys 39 [])), [.at rw0 (.fl .f32 l0)]⟩
def en_arS4_1 (rw0 : Bool) (l0 : List Nat) : St := ⟨(anys 44 []), [.at rw0 (.fl .f32 l0)]⟩
theorem run_arS (N : Nat) (n : Int) (m : Nat) (rw : Bool) (l : List Nat) : run ty tab_arS an_arS N Try.f10 [.int .i64 n, .sl 0 0 m] [.at rw (.fl .f32 l)]
    = (match !(inB n 1 6) with | true => some (.bool false, [.at rw (.fl .f32 l)]) | false => (match ((m : Nat) : Int) != (IntKind.i64.wrap (n * n)) with | true => some (.bool false, [.at rw (.fl .f32 l)]) | false => lp_arS4 N N (st_arS4 n m 0 rw l) (kt_arS4 N (kEnd Try.f10 1)))) := by
  kernel_rfl
theorem step_arS4 {R : Type} (N M : Nat) (K : X → St → Option R) (n0 : Int) (rates1n : Nat) (i5 : Int) (rw0 : Bool) (l0 : List Nat) : lp_arS4 N (M + 1) (st_arS4 n0 rates1n i5 rw0 l0) K
    = (match decide ((i5 : Int) < (IntKind.i64.wrap (n0 * n0))) with | true => (match decide (0 ≤ (i5 : Int) ∧ (i5 : Int) < ((rates1n : Nat) : Int)) with | true => (match l0[0 + (i5).toNat * 1]? with | some e1 => (match !(nonB e1) with | true => K .ret (en_arS4_0 rw0 l0) | false => (match decide (IntKind.i64.wrap (n0 + 1) = 0) with | true => none | false => (match (Int.tmod i5 (IntKind.i64.wrap (n0 + 1))) == 0 with | true => (match decide (0 ≤ (i5 : Int) ∧ (i5 : Int) < ((rates1n : Nat) : Int)) with | true => (match l0[0 + (i5).toNat * 1]? with | some e2 => (match FloatKind.f32.format.order e2 0 != some .eq with | true => K .ret (en_arS4_0 rw0 l0) | false => lp_arS4 N M (st_arS4 n0 rates1n (IntKind.i64.wrap (i5 + 1)) rw0 l0) K) | none => none) | false => none) | false => lp_arS4 N M (st_arS4 n0 rates1n (IntKind.i64.wrap (i5 + 1)) rw0 l0) K))) | none => none) | false => none) | false => K (.exit 0) (en_arS4_1 rw0 l0)) := by
  kernel_rfl
theorem end_arS4_0 (N : Nat) (rw0 : Bool) (l0 : List Nat) : kt_arS4 N (kEnd Try.f10 1) .ret (en_arS4_0 rw0 l0)
    = some (.bool false, [.at rw0 (.fl .f32 l0)]) := by
  kernel_rfl
theorem end_arS4_1 (N : Nat) (rw0 : Bool) (l0 : List Nat) : kt_arS4 N (kEnd Try.f10 1) (.exit 0) (en_arS4_1 rw0 l0)
    = some (.bool true, [.at rw0 (.fl .f32 l0)]) := by
  kernel_rfl
theorem ok_arS : FnT Try.prog 10 gRates := by
  refine fnT tabok_arS Try.func10 rfl rfl an_arS fun vs h v h' e => ⟨40, ?_⟩
  unfold gRates at e
  split at e
  case h_2 => exact (T.no_inv e).elim
  rename_i n m rw l
  obtain ⟨hd, e⟩ := T.pre_inv e
  obtain ⟨rfl, rfl⟩ := T.ret_inv e
  obtain ⟨rfl, hb⟩ := of_decide_eq_true hd
  refine Eq.trans (run_arS 40 _ _ _ _) ?_
  unfold ratesB
  cases hin : inB n 1 6 with
  | false => rfl
  | true =>
    have hin' := inB_iff.mp hin
    obtain ⟨N, rfl⟩ : ∃ N : Nat, n = (N : Int) := ⟨n.toNat, by omega⟩
    obtain ⟨hw, h36⟩ := sq_of (m := 0) (show 1 ≤ N by omega) (by omega)
    rw [hw, neq_dec, Int.toNat_natCast]
    have hNN : ((N : Int) * (N : Int)) = ((N * N : Nat) : Int) := (Int.natCast_mul _ _).symm
    rw [hNN]
    by_cases hlen : l.length = N * N
    case neg =>
      rw [decide_eq_false (show ¬ ((l.length : Nat) : Int) = ((N * N : Nat) : Int) by omega)]
      rfl
    rw [decide_eq_true (show ((l.length : Nat) : Int) = ((N * N : Nat) : Int) by omega)]
    try dsimp only [Bool.not_true]
    try dsimp only
    have hs := scanR (N * N) (fun i => !nonB (l.getD i 0) || (decide (i % (N + 1) = 0) && !eqB (l.getD i 0) 0)) (fun M i => lp_arS4 40 (M + (39 - N * N)) (st_arS4 (N : Int) l.length i rw l) (kt_arS4 40 (kEnd Try.f10 1))) (some (.bool false, [.at rw (.fl .f32 l)])) (some (.bool true, [.at rw (.fl .f32 l)])) (fun M i hi => ?_) (fun M => ?_)
    · rw [show N * N + 1 + (39 - N * N) = 40 by omega] at hs
      refine Eq.trans hs ?_
      rw [one_pass (by omega) (by omega) hlen]
      cases l.all nonB && diagB N l <;> rfl
    · have w1 : IntKind.i64.wrap ((N : Int) + 1) = ((N + 1 : Nat) : Int) := by rw [wrap_m (by omega) (by omega)]; omega
      have hz : decide (((N + 1 : Nat) : Int) = 0) = false := decide_eq_false (by omega)
      have hm : (Int.tmod (i : Int) ((N + 1 : Nat) : Int) == 0) = decide (i % (N + 1) = 0) := by
        rw [Int.tmod_eq_emod_of_nonneg (by omega), ← Int.natCast_emod]
        by_cases h0 : i % (N + 1) = 0
        · rw [h0]; rfl
        · rw [decide_eq_false h0]
          have : ((i % (N + 1) : Nat) : Int) ≠ 0 := by omega
          simpa using this
      rw [show M + 1 + (39 - N * N) = (M + (39 - N * N)) + 1 by omega, step_arS4]
      rw [hw, dlt hi, din (show i < l.length by omega), ix, getD_some' (show i < l.length by omega), w1, hz, hm, wr (show i < 2147483648 by omega)]
      try dsimp only
      cases nonB (l.getD i 0)
      · try dsimp only [Bool.not_false, Bool.true_or]
        rw [end_arS4_0]
        try rfl
      · try dsimp only [Bool.not_true, Bool.false_or]
        cases decide (i % (N + 1) = 0)
        · rfl
        · try dsimp only [Bool.true_and]
          rw [end_arS4_0]
          rfl
    · rw [show M + 1 + (39 - N * N) = (M + (39 - N * N)) + 1 by omega, step_arS4]
      rw [hw, dge (Nat.le_refl _), end_arS4_1]
def sumO (o m : Nat) (l : List Nat) : Nat := rounds (fun i s => fop .add .f32 s (l.getD (o + i) 0)) m 0 0
def gSum : GT := fun vs h => match vs, h with | [.sl 0 o m], [.at rw (.fl .f32 l)] => .ite (decide (o + m ≤ l.length ∧ l.length < 2147483648 ∧ m < 30)) (.ret (.fl .f32 (sumO o m l)) [.at rw (.fl .f32 l)]) .no | _, _ => .no
def an_suI : Ann := ⟨fun r => if r = 3 then some ([3, 6, 7, 8], [3]) else none, fun _ _ => .quiet⟩
def tab_suI : Fns := tabT []
theorem tabok_suI : ∀ f, FnT Try.prog f (tab_suI f) := tabT_nil
def st_suI3 (all3 : Nat) (t6o : Nat) (t6n : Nat) (t7 : Int) (t8 : Int) (rw0 : Bool) (l0 : List Nat) : St := ⟨(.any :: .any :: .any :: .fl .f32 all3 :: .any :: .any :: .sl 0 t6o t6n :: .int .i64 t7 :: .int .i64 t8 :: (anys 8 [])), [.at rw0 (.fl .f32 l0)]⟩
abbrev kp_suI3 : Option (List Nat × List Nat) := some ([3, 6, 7, 8], [3])
noncomputable def lp_suI3 {R : Type} (N M : Nat) (s : St) (K : X → St → Option R) : Option R := loopH 1 kp_suI3 (fun st K => exec ty tab_suI an_suI N 1 (atOf [true, true, false, true, false, false] Try.f25) st K) M s K
noncomputable def kt_suI3 {R : Type} (N : Nat) (K : X → St → Option R) : X → St → Option R := kBlkR 0 (kSeqR tab_suI an_suI N 1 (atOf [true, true, true] Try.f25) (K))
def en_suI3_0 (all3 : Nat) (rw0 : Bool) (l0 : List Nat) : St := ⟨(.any :: .any :: .any :: .fl .f32 all3 :: (anys 13 [])), [.at rw0 (.fl .f32 l0)]⟩
theorem run_suI (N : Nat) (o : Nat) (m : Nat) (rw : Bool) (l : List Nat) : run ty tab_suI an_suI N Try.f25 [.sl 0 o m] [.at rw (.fl .f32 l)]
    = lp_suI3 N N (st_suI3 0 o m ((m : Nat) : Int) 0 rw l) (kt_suI3 N (kEnd Try.f25 1)) := by
  kernel_rfl
theorem step_suI3 {R : Type} (N M : Nat) (K : X → St → Option R) (all3 : Nat) (t6o : Nat) (t6n : Nat) (t7 : Int) (t8 : Int) (rw0 : Bool) (l0 : List Nat) : lp_suI3 N (M + 1) (st_suI3 all3 t6o t6n t7 t8 rw0 l0) K
    = (match decide ((t8 : Int) < t7) with | true => (match decide (0 ≤ (t8 : Int) ∧ (t8 : Int) < ((t6n : Nat) : Int)) with | true => (match l0[t6o + (t8).toNat * 1]? with | some e1 => lp_suI3 N M (st_suI3 (fop .add .f32 all3 e1) t6o t6n t7 (IntKind.i64.wrap (t8 + 1)) rw0 l0) K | none => none) | false => none) | false => K (.exit 0) (en_suI3_0 all3 rw0 l0)) := by
  kernel_rfl
theorem end_suI3_0 (N : Nat) (all3 : Nat) (rw0 : Bool) (l0 : List Nat) : kt_suI3 N (kEnd Try.f25 1) (.exit 0) (en_suI3_0 all3 rw0 l0)
    = some (.fl .f32 all3, [.at rw0 (.fl .f32 l0)]) := by
  kernel_rfl
theorem ok_suI : FnT Try.prog 25 gSum := by
  refine fnT tabok_suI Try.func25 rfl rfl an_suI fun vs h v h' e => ⟨40, ?_⟩
  unfold gSum at e
  split at e
  case h_2 => exact (T.no_inv e).elim
  rename_i o m rw l
  obtain ⟨hd, e⟩ := T.pre_inv e
  obtain ⟨rfl, rfl⟩ := T.ret_inv e
  obtain ⟨hd, hb, hm⟩ := of_decide_eq_true hd
  refine Eq.trans (run_suI 40 _ _ _ _) ?_
  have hc := count_up m (fun i s => fop .add .f32 s (l.getD (o + i) 0)) (fun M i s => lp_suI3 40 M (st_suI3 s o m ((m : Nat) : Int) (i : Int) rw l) (kt_suI3 40 (kEnd Try.f25 1))) (fun s => some (.fl .f32 s, [.at rw (.fl .f32 l)])) (fun _ _ => True) (fun M i s hi _ => ⟨?_, trivial⟩) (fun M s _ => ?_) m 0 0 (by omega) trivial (39 - m)
  · rw [show m + 1 + (39 - m) = 40 by omega] at hc
    exact hc
  · rw [step_suI3, dlt hi, din hi, show o + ((i : Nat) : Int).toNat * 1 = o + i by omega, getD_some' (show o + i < l.length by omega), wr (show i < 2147483648 by omega)]
  · rw [step_suI3, dge (Nat.le_refl _), end_suI3_0]
def outF (n : Int) (l : List Nat) (k : Int) : Nat := sumO (k.toNat * n.toNat) n.toNat l
def outOk (n : Int) (m : Nat) (l : List Nat) (k : Int) : Bool := decide (l.length = m ∧ 1 ≤ n ∧ n ≤ 6 ∧ 0 ≤ k ∧ k < n ∧ ((m : Nat) : Int) = n * n)
def gOut : GT := fun vs h => match vs, h with | [.int .i64 n, .sl 0 0 m, .int .i64 k], [.at rw (.fl .f32 l)] => .ite (outOk n m l k) (.ret (.fl .f32 (outF n l k)) [.at rw (.fl .f32 l)]) .no | _, _ => .no
theorem cell_lt {N i k : Nat} (h6 : N ≤ 6) (hi : i < N) (hk : k < N) : i * N + k < N * N ∧ N * N ≤ 36 := by
  have h1 : (i + 1) * N ≤ N * N := Nat.mul_le_mul_right _ hi
  rw [Nat.add_mul, Nat.one_mul] at h1
  have h2 : N * N ≤ 6 * 6 := Nat.mul_le_mul h6 h6
  omega
def tab_leI : Fns := tabT [(25, gSum)]
theorem tabok_leI : ∀ f, FnT Try.prog f (tab_leI f) := (tabT_cons (k := 25) ok_suI tabT_nil)
theorem run_leI (N : Nat) (n : Int) (m : Nat) (k : Int) (rw : Bool) (l : List Nat) : run ty tab_leI ann0 N Try.f15 [.int .i64 n, .sl 0 0 m, .int .i64 k] [.at rw (.fl .f32 l)]
    = (match decide (0 ≤ (IntKind.i64.wrap (k * n) : Int) ∧ (IntKind.i64.wrap (k * n) : Int) ≤ (IntKind.i64.wrap ((IntKind.i64.wrap (k * n)) + n)) ∧ (IntKind.i64.wrap ((IntKind.i64.wrap (k * n)) + n) : Int) ≤ ((m : Nat) : Int)) with | true => (match decide ((0 + (IntKind.i64.wrap (k * n)).toNat * 1) + (((IntKind.i64.wrap ((IntKind.i64.wrap (k * n)) + n)) - (IntKind.i64.wrap (k * n))).toNat) ≤ l.length ∧ l.length < 2147483648 ∧ (((IntKind.i64.wrap ((IntKind.i64.wrap (k * n)) + n)) - (IntKind.i64.wrap (k * n))).toNat) < 30) with | true => some (.fl .f32 (sumO (0 + (IntKind.i64.wrap (k * n)).toNat * 1) (((IntKind.i64.wrap ((IntKind.i64.wrap (k * n)) + n)) - (IntKind.i64.wrap (k * n))).toNat) l), [.at rw (.fl .f32 l)]) | false => none) | false => none) := by
  kernel_rfl
theorem ok_leI : FnT Try.prog 15 gOut := by
  refine fnT tabok_leI Try.func15 rfl rfl ann0 fun vs h v h' e => ⟨40, ?_⟩
  unfold gOut at e
  split at e
  case h_2 => exact (T.no_inv e).elim
  rename_i n m k rw l
  obtain ⟨hd, e⟩ := T.pre_inv e
  obtain ⟨rfl, rfl⟩ := T.ret_inv e
  obtain ⟨rfl, h1, h6, hk0, hk, hm⟩ := of_decide_eq_true hd
  obtain ⟨A, rfl⟩ : ∃ A : Nat, n = (A : Int) := ⟨n.toNat, by omega⟩
  obtain ⟨B, rfl⟩ : ∃ B : Nat, k = (B : Int) := ⟨k.toNat, by omega⟩
  have hAA : ((A : Int) * (A : Int)) = ((A * A : Nat) : Int) := (Int.natCast_mul _ _).symm
  have hBA : ((B : Int) * (A : Int)) = ((B * A : Nat) : Int) := (Int.natCast_mul _ _).symm
  rw [hAA] at hm
  obtain ⟨hlt, h36⟩ := cell_lt (N := A) (i := B) (k := A - 1) (by omega) (by omega) (by omega)
  have w1 : IntKind.i64.wrap ((B : Int) * (A : Int)) = ((B * A : Nat) : Int) := by rw [hBA]; exact wrap_m (by omega) (by omega)
  refine Eq.trans (run_leI 40 _ _ _ _ _) ?_
  unfold outF
  rw [Int.toNat_natCast, Int.toNat_natCast]
  have w2 : IntKind.i64.wrap (((B * A : Nat) : Int) + (A : Int)) = ((B * A + A : Nat) : Int) := by rw [wrap_m (by omega) (by omega)]; omega
  rw [w1, w2]
  rw [decide_eq_true (show (0 : Int) ≤ ((B * A : Nat) : Int) ∧ ((B * A : Nat) : Int) ≤ ((B * A + A : Nat) : Int) ∧ ((B * A + A : Nat) : Int) ≤ ((l.length : Nat) : Int) by omega)]
  try dsimp only
  rw [show (((B * A + A : Nat) : Int) - ((B * A : Nat) : Int)).toNat = A by omega, show 0 + (((B * A : Nat) : Int)).toNat * 1 = B * A by omega]
  rw [decide_eq_true (show B * A + A ≤ l.length ∧ l.length < 2147483648 ∧ A < 30 by omega)]
def an_leS : Ann := ⟨fun r => if r = 3 then some ([0, 1, 2, 7, 8], [7]) else none, fun _ _ => .quiet⟩
def tab_leS : Fns := tabT []
theorem tabok_leS : ∀ f, FnT Try.prog f (tab_leS f) := tabT_nil
def st_leS3 (n0 : Int) (rates1n : Nat) (k2 : Int) (sum7 : Nat) (i8 : Int) (rw0 : Bool) (l0 : List Nat) : St := ⟨(.int .i64 n0 :: .sl 0 0 rates1n :: .int .i64 k2 :: .any :: .any :: .any :: .any :: .fl .f32 sum7 :: .int .i64 i8 :: (anys 16 [])), [.at rw0 (.fl .f32 l0)]⟩
abbrev kp_leS3 : Option (List Nat × List Nat) := some ([0, 1, 2, 7, 8], [7])
noncomputable def lp_leS3 {R : Type} (N M : Nat) (s : St) (K : X → St → Option R) : Option R := loopH 1 kp_leS3 (fun st K => exec ty tab_leS an_leS N 1 (atOf [true, true, false, true, false, false] Try.f11) st K) M s K
noncomputable def kt_leS3 {R : Type} (N : Nat) (K : X → St → Option R) : X → St → Option R := kBlkR 0 (kSeqR tab_leS an_leS N 1 (atOf [true, true, true] Try.f11) (K))
def en_leS3_0 (sum7 : Nat) (rw0 : Bool) (l0 : List Nat) : St := ⟨(anys 7 (.fl .f32 sum7 :: (anys 17 []))), [.at rw0 (.fl .f32 l0)]⟩
theorem run_leS (N : Nat) (n : Int) (m : Nat) (k : Int) (rw : Bool) (l : List Nat) : run ty tab_leS an_leS N Try.f11 [.int .i64 n, .sl 0 0 m, .int .i64 k] [.at rw (.fl .f32 l)]
    = lp_leS3 N N (st_leS3 n m k 0 0 rw l) (kt_leS3 N (kEnd Try.f11 1)) := by
  kernel_rfl
theorem step_leS3 {R : Type} (N M : Nat) (K : X → St → Option R) (n0 : Int) (rates1n : Nat) (k2 : Int) (sum7 : Nat) (i8 : Int) (rw0 : Bool) (l0 : List Nat) : lp_leS3 N (M + 1) (st_leS3 n0 rates1n k2 sum7 i8 rw0 l0) K
    = (match decide ((i8 : Int) < n0) with | true => (match decide (0 ≤ (IntKind.i64.wrap ((IntKind.i64.wrap (k2 * n0)) + i8) : Int) ∧ (IntKind.i64.wrap ((IntKind.i64.wrap (k2 * n0)) + i8) : Int) < ((rates1n : Nat) : Int)) with | true => (match l0[0 + (IntKind.i64.wrap ((IntKind.i64.wrap (k2 * n0)) + i8)).toNat * 1]? with | some e1 => lp_leS3 N M (st_leS3 n0 rates1n k2 (fop .add .f32 sum7 e1) (IntKind.i64.wrap (i8 + 1)) rw0 l0) K | none => none) | false => none) | false => K (.exit 0) (en_leS3_0 sum7 rw0 l0)) := by
  kernel_rfl
theorem end_leS3_0 (N : Nat) (sum7 : Nat) (rw0 : Bool) (l0 : List Nat) : kt_leS3 N (kEnd Try.f11 1) (.exit 0) (en_leS3_0 sum7 rw0 l0)
    = some (.fl .f32 sum7, [.at rw0 (.fl .f32 l0)]) := by
  kernel_rfl
theorem ok_leS : FnT Try.prog 11 gOut := by
  refine fnT tabok_leS Try.func11 rfl rfl an_leS fun vs h v h' e => ⟨40, ?_⟩
  unfold gOut at e
  split at e
  case h_2 => exact (T.no_inv e).elim
  rename_i n m k rw l
  obtain ⟨hd, e⟩ := T.pre_inv e
  obtain ⟨rfl, rfl⟩ := T.ret_inv e
  obtain ⟨rfl, h1, h6, hk0, hk, hm⟩ := of_decide_eq_true hd
  obtain ⟨A, rfl⟩ : ∃ A : Nat, n = (A : Int) := ⟨n.toNat, by omega⟩
  obtain ⟨B, rfl⟩ : ∃ B : Nat, k = (B : Int) := ⟨k.toNat, by omega⟩
  have hAA : ((A : Int) * (A : Int)) = ((A * A : Nat) : Int) := (Int.natCast_mul _ _).symm
  have hBA : ((B : Int) * (A : Int)) = ((B * A : Nat) : Int) := (Int.natCast_mul _ _).symm
  rw [hAA] at hm
  obtain ⟨hlt, h36⟩ := cell_lt (N := A) (i := B) (k := A - 1) (by omega) (by omega) (by omega)
  have w1 : IntKind.i64.wrap ((B : Int) * (A : Int)) = ((B * A : Nat) : Int) := by rw [hBA]; exact wrap_m (by omega) (by omega)
  refine Eq.trans (run_leS 40 _ _ _ _ _) ?_
  unfold outF
  rw [Int.toNat_natCast, Int.toNat_natCast]
  have hc := count_up A (fun i s => fop .add .f32 s (l.getD (B * A + i) 0)) (fun M i s => lp_leS3 40 M (st_leS3 (A : Int) l.length (B : Int) s (i : Int) rw l) (kt_leS3 40 (kEnd Try.f11 1))) (fun s => some (.fl .f32 s, [.at rw (.fl .f32 l)])) (fun _ _ => True) (fun M i s hi _ => ⟨?_, trivial⟩) (fun M s _ => ?_) A 0 0 (by omega) trivial (39 - A)
  · rw [show A + 1 + (39 - A) = 40 by omega] at hc
    exact hc
  · have w2 : IntKind.i64.wrap (((B * A : Nat) : Int) + (i : Int)) = ((B * A + i : Nat) : Int) := by rw [wrap_m (by omega) (by omega)]; omega
    rw [step_leS3, dlt hi, w1, w2, din (show B * A + i < l.length by omega), ix, getD_some' (show B * A + i < l.length by omega), wr (show i < 2147483648 by omega)]
  · rw [step_leS3, dge (Nat.le_refl _), end_leS3_0]
end Go.Proofs.Ytppdnhjcnjfppaa.Ab

namespace Go.Proofs.Ytppdnhjcnjfppaa.Ab
set_option linter.unusedVariables false
set_option linter.unusedSimpArgs false
open Go
def magB (x : Nat) : Nat := match ltB x 0 with | true => fneg .f32 x | false => x
def sizB (x : Nat) : Nat := match ltB x 0 || eqB x 0 with | true => fop .sub .f32 0 x | false => x
def gMag : GT := fun vs h => match vs, h with | [.fl .f32 x], [] => .ret (.fl .f32 (magB x)) [] | _, _ => .no
def gSiz : GT := fun vs h => match vs, h with | [.fl .f32 x], [] => .ret (.fl .f32 (sizB x)) [] | _, _ => .no
def rts (N : Nat) (a : Nat → Nat) : List Nat := (List.range N).map a
theorem rts_eq {N : Nat} {l : List Nat} (h : l.length = N) : rts N (fun i => l.getD i 0) = l := by
  subst h
  unfold rts
  apply List.ext_getElem?
  intro i
  rw [List.getElem?_map]
  by_cases hi : i < l.length
  · rw [List.getElem?_range hi, List.getElem?_eq_getElem hi]
    simp [List.getD_eq_getElem?_getD, hi]
  · rw [List.getElem?_eq_none (by simp; omega), List.getElem?_eq_none (by omega)]
    rfl
def iniM (w n : Nat) (l : List Nat) : Nat → Nat := fun q => bif Nat.beq (q / w + 1) n then 1065353216 else bif Nat.beq (q % w) n then 0 else bif Nat.beq (q % w) (q / w) then fop .sub .f32 0 (outF (n : Int) l ((q / w : Nat) : Int)) else l.getD ((q % w) * n + q / w) 0
def swapM (w k a : Nat) (m : Nat → Nat) : Nat → Nat := fun q => m (bif Nat.beq (q / w) k then w * a + q % w else bif Nat.beq (q / w) a then w * k + q % w else q)
def elimM (w k : Nat) (m : Nat → Nat) : Nat → Nat := fun q => bif Nat.blt k (q / w) && Nat.blt k (q % w) then fop .sub .f32 (m q) (fop .mul .f32 (fop .quo .f32 (m (w * (q / w) + k)) (m (w * k + k))) (m (w * k + q % w))) else m q
def seaV (F : Nat → Nat) (w k : Nat) (m : Nat → Nat) : Nat → Nat → Nat → Nat
  | 0, _, a => a
  | t + 1, i, a => match gtB (F (m (w * i + k))) (F (m (w * a + k))) with
    | true => seaV F w k m t (i + 1) i
    | false => seaV F w k m t (i + 1) a
theorem seaV_le {F : Nat → Nat} {w k n : Nat} {m : Nat → Nat} : ∀ t i a, i + t = n → a < n → seaV F w k m t i a < n
  | 0, _, _, _, h => h
  | t + 1, i, a, e, h => by
    unfold seaV
    cases gtB (F (m (w * i + k))) (F (m (w * a + k)))
    · exact seaV_le t (i + 1) a (by omega) h
    · exact seaV_le t (i + 1) i (by omega) (by omega)
theorem seaV_ge {F : Nat → Nat} {w k : Nat} {m : Nat → Nat} : ∀ t i a, k ≤ i → k ≤ a → k ≤ seaV F w k m t i a
  | 0, _, _, _, h => h
  | t + 1, i, a, e, h => by
    unfold seaV
    cases gtB (F (m (w * i + k))) (F (m (w * a + k)))
    · exact seaV_ge t (i + 1) a (by omega) h
    · exact seaV_ge t (i + 1) i (by omega) e
def bestM (F : Nat → Nat) (w n k : Nat) (m : Nat → Nat) : Nat → Nat := swapM w k (seaV F w k m (n - 1 - k) (k + 1) k) m
def sol (F : Nat → Nat) (w n : Nat) : Nat → Nat → (Nat → Nat) → Option (Nat → Nat)
  | 0, _, m => some m
  | t + 1, k, m => match eqB (bestM F w n k m (w * k + k)) 0 with
    | true => none
    | false => sol F w n t (k + 1) (elimM w k (bestM F w n k m))
def subsF (m : Nat → Nat) (w i : Nat) : Nat → List Nat → Nat → Nat
  | _, [], x => x
  | k, y :: o, x => subsF m w i (k + 1) o (fop .sub .f32 x (fop .mul .f32 (m (w * i + k)) y))
def bkL (w n : Nat) (m : Nat → Nat) : Nat → List Nat
  | 0 => []
  | t + 1 => fop .quo .f32 (subsF m w (n - 1 - t) (n - t) (bkL w n m t) (m (w * (n - 1 - t) + n))) (m (w * (n - 1 - t) + (n - 1 - t))) :: bkL w n m t
theorem bkL_len {w n : Nat} {m : Nat → Nat} : ∀ t, (bkL w n m t).length = t
  | 0 => rfl
  | t + 1 => by unfold bkL; rw [List.length_cons, bkL_len t]
def tab_mag : Fns := tabT []
theorem tabok_mag : ∀ f, FnT Try.prog f (tab_mag f) := tabT_nil
theorem run_mag (N : Nat) (x : Nat) : run ty tab_mag ann0 N Try.f16 [.fl .f32 x] []
    = (match ltB x 0 with | true => some (.fl .f32 (fneg .f32 x), []) | false => some (.fl .f32 x, [])) := by
  kernel_rfl
theorem ok_mag : FnT Try.prog 16 gMag := by
  refine fnT tabok_mag Try.func16 rfl rfl ann0 fun vs h v h' e => ⟨0, ?_⟩
  unfold gMag at e
  split at e
  case h_2 => exact (T.no_inv e).elim
  rename_i x
  obtain ⟨rfl, rfl⟩ := T.ret_inv e
  refine Eq.trans (run_mag 0 x) ?_
  unfold magB
  cases ltB x 0 <;> rfl
def tab_siz : Fns := tabT []
theorem tabok_siz : ∀ f, FnT Try.prog f (tab_siz f) := tabT_nil
theorem run_siz (N : Nat) (x : Nat) : run ty tab_siz ann0 N Try.f21 [.fl .f32 x] []
    = (match ltB x 0 || eqB x 0 with | true => some (.fl .f32 (fop .sub .f32 0 x), []) | false => some (.fl .f32 x, [])) := by
  kernel_rfl
theorem ok_siz : FnT Try.prog 21 gSiz := by
  refine fnT tabok_siz Try.func21 rfl rfl ann0 fun vs h v h' e => ⟨0, ?_⟩
  unfold gSiz at e
  split at e
  case h_2 => exact (T.no_inv e).elim
  rename_i x
  obtain ⟨rfl, rfl⟩ := T.ret_inv e
  refine Eq.trans (run_siz 0 x) ?_
  unfold sizB
  cases ltB x 0 || eqB x 0 <;> rfl
end Go.Proofs.Ytppdnhjcnjfppaa.Ab

namespace Go.Proofs.Ytppdnhjcnjfppaa.Ab
set_option linter.unusedVariables false
set_option linter.unusedSimpArgs false
open Go
def allRw : H → Bool
  | [] => true
  | .at true _ :: h => allRw h
  | _ => false
theorem allRw_at : ∀ {h : H}, allRw h = true → ∀ (i : Nat) (b : B), h[i]? = some b → ∃ c, b = .at true c
  | [], _, i, b, e => by simp at e
  | .at true c :: h, k, 0, b, e => by simp at e; exact ⟨c, e.symm⟩
  | .at true c :: h, k, i + 1, b, e => allRw_at (h := h) k i b (by simpa using e)
  | .at false c :: h, k, _, _, _ => by cases k
  | .gone :: h, k, _, _, _ => by cases k
def runM (ty : Ty) (fns : Fns) (an : Ann) (N : Nat) (fn : Func) (vs : List V) (h : H) : Option (V × H) :=
  match fn.body with
  | none => none
  | some code => exec ty fns an N h.length code ⟨vs.map (V.up (fun i => h.length + i)) ++ List.replicate (fn.ntmps - vs.length) V.no, List.replicate h.length .gone ++ h.map (B.up (fun i => h.length + i))⟩ fun x st => match x with
    | .exit _ => none
    | _ => finish ty fn h.length st
theorem RepVs.up {f : Nat → Nat} {μ μ' : Mu} (h : Tells f μ μ') : ∀ {vs : List V} {cvs : List Value}, RepVs μ vs cvs → RepVs μ' (vs.map (V.up f)) cvs
  | [], [], _ => trivial
  | _ :: _, _ :: _, k => ⟨RepV.up h k.1, RepVs.up h k.2⟩
theorem Ev.moved {μ : Mu} {h : H} {w : World} (r : Rel μ h w) (ha : allRw h = true) :
    Ev μ h w (μ.app μ.l) (List.replicate h.length .gone ++ h.map (B.up (fun i => h.length + i))) w ∧ Tells (fun i => h.length + i) μ (μ.app μ.l) := by
  have hlen := r.len
  have tells : Tells (fun i => h.length + i) μ (μ.app μ.l) := by
    refine ⟨.refl _, fun i m e => ?_⟩
    show (μ.l ++ μ.l)[h.length + i]? = some m
    rw [List.getElem?_append_right (by omega), ← hlen, Nat.add_sub_cancel_left]
    exact e
  have key : ∀ (j : Nat) (m : M) (rw : Bool) (c' : C), (μ.l ++ μ.l)[j]? = some m → (List.replicate h.length B.gone ++ h.map (B.up (fun i => h.length + i)))[j]? = some (.at rw c') →
      ∃ i c, j = h.length + i ∧ μ.l[i]? = some m ∧ h[i]? = some (.at rw c) ∧ c'.esz = c.esz ∧ ∀ p x, c'.get? p = some x → ∃ y, c.get? p = some y ∧ x = y.up (fun i => h.length + i) := by
    intro j m rw c' h1 h2
    by_cases hj : j < h.length
    · rw [List.getElem?_append_left (by simpa using hj), List.getElem?_replicate] at h2
      simp [hj] at h2
    · obtain ⟨i, rfl⟩ : ∃ i, j = h.length + i := ⟨j - h.length, by omega⟩
      rw [List.getElem?_append_right (by simp), List.length_replicate, Nat.add_sub_cancel_left, List.getElem?_map, Option.map_eq_some_iff] at h2
      obtain ⟨b, hb, hb'⟩ := h2
      obtain ⟨c, rfl, hc⟩ := B.up_at hb'
      rw [List.getElem?_append_right (by omega), hlen, Nat.add_sub_cancel_left] at h1
      exact ⟨i, c, rfl, h1, hb, hc⟩
  refine ⟨⟨⟨by simp [hlen], ?_, ?_, ?_, ?_, ?_⟩, .app μ _, .refl _ w, ?_, ?_, fun _ _ h => .inl h⟩, tells⟩
  · intro j m rw c' h1 h2 p x hx
    obtain ⟨i, c, rfl, hm, hb, _, hc⟩ := key j m rw c' h1 h2
    obtain ⟨y, hy, rfl⟩ := hc p x hx
    obtain ⟨cv, h3, h4⟩ := r.cell i m rw c hm hb p y hy
    exact ⟨cv, h3, h4.up tells⟩
  · intro j m c' h1 h2
    obtain ⟨i, c, rfl, hm, hb, he, _⟩ := key j m true c' h1 h2
    rw [he]
    exact r.own i m c hm hb
  · intro j m rw c' h1 h2 hl
    obtain ⟨i, c, rfl, hm, hb, _, hc⟩ := key j m rw c' h1 h2
    exact r.lt i m rw c hm hb (hl.imp id fun ⟨p, x, hx⟩ => (hc p x hx).elim fun y hy => ⟨p, y, hy.1⟩)
  · intro j j' m n c' rw d' hj h1 h2 h3 h4 hl
    obtain ⟨i, c, rfl, hm, hb, _⟩ := key j m true c' h1 h3
    obtain ⟨i', d, rfl, hm', hb', _, hc⟩ := key j' n rw d' h2 h4
    exact r.sep i i' m n c rw d (by omega) hm hm' hb hb' (hl.imp id fun ⟨p, x, hx⟩ => (hc p x hx).elim fun y hy => ⟨p, y, hy.1⟩)
  · intro k cur hk
    obtain ⟨h1, h2⟩ := r.fz k cur hk
    refine ⟨h1, fun j m c' h3 h4 => ?_⟩
    obtain ⟨i, c, rfl, hm, hb, _⟩ := key j m true c' h3 h4
    exact h2 i m c hm hb
  · intro j rw c hj hb
    rw [List.getElem?_append_left (by simp; omega), List.getElem?_replicate] at hb
    split at hb <;> cases hb
  · intro j m rw c' hj h1 h2
    obtain ⟨i, c, rfl, hm, hb, _⟩ := key j m rw c' h1 h2
    obtain ⟨c2, hc2⟩ := allRw_at ha i _ hb
    cases hc2
    exact ⟨rfl, .inl ⟨i, m, c, hm, hb, rfl⟩⟩
theorem fnM {f : FuncId} {fn : Func} {code : Code} {fns : Fns} (hfn : ∀ f, FnT Try.prog f (fns f)) (hf : Try.prog.funcs[f]? = some fn) (hb : fn.body = some code) (hname : (fn.name == "runtime.NumGoroutine") = false) {g : GT} (an : Ann)
    (H : ∀ vs h v h', (g vs h).run = some (v, h') → allRw h = true ∧ ∃ N, runM ty fns an N fn vs h = some (v, h')) : FnT Try.prog f g := by
  intro vs h v h' hg μ w cvs hr hv
  left
  obtain ⟨ha, N, hrun⟩ := H vs h v h' hg
  refine ⟨?_, ?_⟩
  · have hname' : ¬ (fn.name = "runtime.NumGoroutine") := by simpa using hname
    simp [callFunc, hf, hname', hb]
  · refine calls_of_wp hf hb ?_
    unfold runM at hrun
    rw [hb] at hrun
    dsimp only at hrun
    obtain ⟨hev, tells⟩ := Ev.moved hr ha
    rw [← hr.len] at hrun hev tells
    have hv' := RepVs.up tells hv
    obtain ⟨hlen, hnth⟩ := repVs_nth (n := fn.ntmps - vs.length) hv'
    have hlen2 : vs.length = cvs.length := by rw [← hlen]; simp
    have hinv : Inv μ h w (μ.app μ.l) ⟨vs.map (V.up (fun i => μ.l.length + i)) ++ List.replicate (fn.ntmps - vs.length) V.no, List.replicate μ.l.length .gone ++ h.map (B.up (fun i => μ.l.length + i))⟩ { tmps := ⟨cvs⟩ ++ Array.replicate (fn.ntmps - (⟨cvs⟩ : Array Value).size) undef, defers := [] } w := by
      refine ⟨⟨by simp [hlen2], fun i => ?_⟩, rfl, hev⟩
      have := hnth i
      rw [Array.getD_eq_getD_getElem?]
      have e : ((⟨cvs⟩ : Array Value) ++ Array.replicate (fn.ntmps - (⟨cvs⟩ : Array Value).size) undef)[i]? = (cvs ++ List.replicate (fn.ntmps - vs.length) undef)[i]? := by
        rw [← Array.getElem?_toList, Array.toList_append, Array.toList_replicate]
        rw [show (⟨cvs⟩ : Array Value).size = vs.length from hlen2.symm]
      rw [e]
      exact this
    have hend := finish_ok (P := Try.prog) (fn := fn) (μ := μ) (h := h) (w := w) (v := v) (h' := h') tyOk
    refine exec_ok tyOk hfn mixed code hrun _ (fun x st' hx μ' a' w' hi' => ?_) _ _ w hinv
    cases x with
    | norm => exact hend st' a' w' hx μ' hi'
    | exit id => cases hx
    | ret => exact hend st' a' w' hx μ' hi'
theorem FnT.either {f : FuncId} {g g1 g2 : GT} (h1 : FnT Try.prog f g1) (h2 : FnT Try.prog f g2) (e : ∀ vs h v h', (g vs h).run = some (v, h') → (g1 vs h).run = some (v, h') ∨ (g2 vs h).run = some (v, h')) : FnT Try.prog f g :=
  fun vs h v h' hg => (e vs h v h' hg).elim (h1 vs h v h') (h2 vs h v h')
end Go.Proofs.Ytppdnhjcnjfppaa.Ab

namespace Go.Proofs.Ytppdnhjcnjfppaa.Ab
set_option linter.unusedVariables false
set_option linter.unusedSimpArgs false
open Go
def mkH (n : Nat) : Nat → Nat → List A
  | _, 0 => []
  | s, t + 1 => .sl s 0 n :: mkH n (s + 1) t
def rowL (n : Nat) (m : Nat → Nat) (i : Nat) : List Nat := (List.range n).map fun j => m ((n + 1) * i + j)
def colL (n : Nat) (m : Nat → Nat) : List Nat := (List.range n).map fun i => m ((n + 1) * i + n)
def hSol (n : Nat) (m : Nat → Nat) : H := .at true (.as 1 (mkH n 2 n)) :: .at true (.fl .f32 (colL n m)) :: (List.range n).map fun i => .at true (.fl .f32 (rowL n m i))
def rowsB : List B → Option (List (List Nat))
  | [] => some []
  | .at true (.fl .f32 l) :: t => match rowsB t with | some r => some (l :: r) | none => none
  | _ => none
def hsB (n : Nat) : Nat → List A → Bool
  | _, [] => true
  | s, .sl i o l :: t => Nat.beq i s && (Nat.beq o 0 && (Nat.beq l n && hsB n (s + 1) t))
  | _, _ => false
def lenB (n : Nat) : List (List Nat) → Bool
  | [] => true
  | l :: t => Nat.beq l.length n && lenB n t
def mOf (n : Nat) (R : List (List Nat)) (b : List Nat) : Nat → Nat := fun q => bif Nat.beq (q % (n + 1)) n then b.getD (q / (n + 1)) 0 else (R.getD (q / (n + 1)) []).getD (q % (n + 1)) 0
def iniR (n : Nat) (l : List Nat) : List (List Nat) := (List.range n).map fun i => (List.range n).map fun j => iniM (n + 1) n l ((n + 1) * i + j)
def iniB (n : Nat) (l : List Nat) : List Nat := (List.range n).map fun i => iniM (n + 1) n l ((n + 1) * i + n)
def mI (n : Nat) (l : List Nat) : Nat → Nat := mOf n (iniR n l) (iniB n l)
def readS (n : Nat) (vs : List V) (h : H) : Option (Nat → Nat) := match vs, h with
  | [.sl i o l, .sl j q r], .at true (.as e hs) :: .at true (.fl .f32 b) :: t => match rowsB t with
    | some R => match Nat.beq i 0 && (Nat.beq o 0 && (Nat.beq l n && (Nat.beq j 1 && (Nat.beq q 0 && (Nat.beq r n && (Nat.beq e 1 && (hsB n 2 hs && (Nat.beq hs.length n && (Nat.beq b.length n && (Nat.beq R.length n && lenB n R)))))))))) with
      | true => some (mOf n R b)
      | false => none
    | none => none
  | _, _ => none
def solOk (F : Nat → Nat) (n : Nat) (m : Nat → Nat) : Bool := (sol F (n + 1) n n 0 m).isSome
def solM (F : Nat → Nat) (n : Nat) (m : Nat → Nat) : Nat → Nat := (sol F (n + 1) n n 0 m).getD m
def solL (F : Nat → Nat) (n : Nat) (m : Nat → Nat) : List Nat := bkL (n + 1) n (solM F n m) n
def balB (n : Nat) (l : List Nat) : Bool := solOk magB n (mI n l) && (solL magB n (mI n l)).all finB
def balR (n : Nat) (rw : Bool) (l : List Nat) : Option (V × H) := match balB n l with
  | true => some (.tup [.a (.sl 1 0 n), .a (.bool true)], [.at rw (.fl .f32 l), .at true (.fl .f32 (solL magB n (mI n l)))])
  | false => some (.tup [.a .nil, .a (.bool false)], [.at rw (.fl .f32 l)])
def balOk (n : Int) (l : List Nat) : Bool := ratesB n l && balB n.toNat l
def balV (n : Int) (l : List Nat) : List Nat := solL magB n.toNat (mI n.toNat l)
theorem bal_len {n : Int} {l : List Nat} (h : balOk n l = true) : (balV n l).length < 100 := by
  unfold balOk ratesB at h
  simp only [Bool.and_eq_true] at h
  have h1 := inB_iff.mp h.1.1
  unfold balV solL
  rw [bkL_len]
  omega
def gBal : GT := fun vs h => match vs, h with
  | [.int .i64 n, .sl 0 0 m], [.at rw (.fl .f32 l)] => .ite (decide (l.length = m ∧ m < 2147483648)) (.ite (balOk n l) (.ret (.tup [.a (.sl 1 0 (balV n l).length), .a (.bool true)]) [.at rw (.fl .f32 l), .at true (.fl .f32 (balV n l))]) (.ret (.tup [.a .nil, .a (.bool false)]) [.at rw (.fl .f32 l)])) .no
  | _, _ => .no
def gBalF : GT := fun vs h => match vs, h with
  | [.int .i64 n, .sl 0 0 m], [.at rw (.fl .f32 l)] => .ite (decide (l.length = m ∧ m < 2147483648)) (.ite (ratesB n l) .no (.ret (.tup [.a .nil, .a (.bool false)]) [.at rw (.fl .f32 l)])) .no
  | _, _ => .no
def gBalN (k : Nat) : GT := fun vs h => match vs, h with
  | [.int .i64 n, .sl 0 0 m], [.at rw (.fl .f32 l)] => .ite (decide (l.length = m ∧ n = (k : Int)) && ratesB n l) (T.of (balR k rw l)) .no
  | _, _ => .no
def gRatesF : GT := fun vs h => match vs, h with | [.int .i64 n, .sl 0 0 m], [.at rw (.fl .f32 l)] => .ite (decide (l.length = m ∧ m < 2147483648)) (.ite (ratesB n l) .no (.ret (.bool false) [.at rw (.fl .f32 l)])) .no | _, _ => .no
theorem ratesF {f : FuncId} (h : FnT Try.prog f gRates) : FnT Try.prog f gRatesF := by
  refine FnT.either h h fun vs h v h' e => .inl ?_
  unfold gRatesF at e
  split at e
  case h_2 => exact (T.no_inv e).elim
  rename_i n m rw l
  obtain ⟨hd, e⟩ := T.pre_inv e
  show T.run (T.ite (decide (l.length = m ∧ m < 2147483648)) (T.ret (V.bool (ratesB n l)) [B.at rw (C.fl FloatKind.f32 l)]) T.no) = _
  rw [hd]
  rcases T.ite_inv e with ⟨_, e⟩ | ⟨hr, e⟩
  · exact (T.no_inv e).elim
  · rw [hr]
    exact e
theorem rates_len {n : Int} {l : List Nat} (h : ratesB n l = true) : ((l.length : Nat) : Int) = n * n ∧ 1 ≤ n ∧ n ≤ 6 := by
  unfold ratesB at h
  simp only [Bool.and_eq_true] at h
  exact ⟨of_decide_eq_true h.2.1, inB_iff.mp h.1⟩
theorem bal_of {f : FuncId} (hF : FnT Try.prog f gBalF) (h1 : FnT Try.prog f (gBalN 1)) (h2 : FnT Try.prog f (gBalN 2)) (h3 : FnT Try.prog f (gBalN 3)) (h4 : FnT Try.prog f (gBalN 4)) (h5 : FnT Try.prog f (gBalN 5)) (h6 : FnT Try.prog f (gBalN 6)) : FnT Try.prog f gBal := by
  intro vs h v h' e
  unfold gBal at e
  split at e
  case h_2 => exact (T.no_inv e).elim
  rename_i n m rw l
  obtain ⟨hd, e⟩ := T.pre_inv e
  obtain ⟨hm, hb⟩ := of_decide_eq_true hd
  cases hr : ratesB n l with
  | false =>
    refine hF _ _ _ _ ?_
    show T.run (T.ite (decide (l.length = m ∧ m < 2147483648)) (T.ite (ratesB n l) T.no (T.ret (V.tup [U.a A.nil, U.a (A.bool false)]) [B.at rw (C.fl FloatKind.f32 l)])) T.no) = _
    rw [hd, hr]
    unfold balOk at e
    rw [hr] at e
    exact e
  | true =>
    obtain ⟨k1, k2, k3⟩ := rates_len hr
    have key : ∀ k : Nat, n = (k : Int) → (gBalN k [.int .i64 n, .sl 0 0 m] [.at rw (.fl .f32 l)]).run = some (v, h') := by
      intro k hk
      show T.run (T.ite (decide (l.length = m ∧ n = (k : Int)) && ratesB n l) (T.of (balR k rw l)) T.no) = _
      rw [hr, decide_eq_true (show l.length = m ∧ n = (k : Int) from ⟨hm, hk⟩)]
      show (T.of (balR k rw l)).run = _
      rw [T.run_of]
      refine Eq.trans ?_ e
      unfold balOk balV balR
      subst hk
      rw [hr, Int.toNat_natCast]
      have hl : (solL magB k (mI k l)).length = k := by unfold solL; rw [bkL_len]
      cases hB : balB k l with
      | false => rfl
      | true =>
        show _ = T.run (T.ite (true && true) _ _)
        show _ = some (V.tup [U.a (A.sl 1 0 (solL magB k (mI k l)).length), U.a (A.bool true)], _)
        rw [hl]
    have hn : n = ((1 : Nat) : Int) ∨ n = ((2 : Nat) : Int) ∨ n = ((3 : Nat) : Int) ∨ n = ((4 : Nat) : Int) ∨ n = ((5 : Nat) : Int) ∨ n = ((6 : Nat) : Int) := by omega
    rcases hn with hn | hn | hn | hn | hn | hn
    · exact h1 _ _ _ _ (key 1 hn)
    · exact h2 _ _ _ _ (key 2 hn)
    · exact h3 _ _ _ _ (key 3 hn)
    · exact h4 _ _ _ _ (key 4 hn)
    · exact h5 _ _ _ _ (key 5 hn)
    · exact h6 _ _ _ _ (key 6 hn)
def solT (n : Nat) (m : Nat → Nat) : T := .ite (solOk sizB n m) (.ret (.tup [.a (.sl (n + 2) 0 n), .a (.bool true)]) (List.replicate (n + 2) .gone ++ [.at true (.fl .f32 (solL sizB n m))])) (.ret (.tup [.a .nil, .a (.bool false)]) (List.replicate (n + 2) .gone))
def gSol (n : Nat) : GT := fun vs h => match readS n vs h with | some m => solT n m | none => .no
theorem hsB_inv {n : Nat} : ∀ {hs : List A} {s : Nat}, hsB n s hs = true → hs = mkH n s hs.length
  | [], s, _ => rfl
  | x :: t, s, e => by
    cases x with
    | sl i o l =>
      unfold hsB at e
      simp only [Bool.and_eq_true] at e
      have h1 := Nat.eq_of_beq_eq_true e.1
      have h2 := Nat.eq_of_beq_eq_true e.2.1
      have h3 := Nat.eq_of_beq_eq_true e.2.2.1
      subst h1 h2 h3
      rw [List.length_cons]
      unfold mkH
      rw [← hsB_inv e.2.2.2]
    | _ => cases e
theorem rowsB_inv : ∀ {t : List B} {R : List (List Nat)}, rowsB t = some R → t = R.map fun l => .at true (.fl .f32 l)
  | [], R, e => by cases e; rfl
  | b :: t, R, e => by
    unfold rowsB at e
    split at e
    · cases ‹_ :: _ = []›
    · rename_i l t' heq
      injection heq with h1 h2
      subst h1 h2
      split at e
      · rename_i r hr
        cases e
        rw [List.map_cons, ← rowsB_inv hr]
      · cases e
    · cases e
theorem lenB_get {n : Nat} : ∀ {R : List (List Nat)}, lenB n R = true → ∀ i, i < R.length → (R.getD i []).length = n
  | [], _, i, h => by simp at h
  | l :: t, e, 0, _ => by
    unfold lenB at e
    rw [Bool.and_eq_true] at e
    exact Nat.eq_of_beq_eq_true e.1
  | l :: t, e, i + 1, h => by
    unfold lenB at e
    rw [Bool.and_eq_true] at e
    have := lenB_get e.2 i (by simpa using h)
    simpa using this
theorem div_w {n i j : Nat} (h : j ≤ n) : ((n + 1) * i + j) / (n + 1) = i ∧ ((n + 1) * i + j) % (n + 1) = j := by
  constructor
  · rw [Nat.mul_add_div (by omega), Nat.div_eq_of_lt (by omega)]; rfl
  · rw [Nat.mul_add_mod, Nat.mod_eq_of_lt (by omega)]
theorem mOf_row {n i j : Nat} {R : List (List Nat)} {b : List Nat} (h : j < n) : mOf n R b ((n + 1) * i + j) = (R.getD i []).getD j 0 := by
  unfold mOf
  obtain ⟨h1, h2⟩ := div_w (i := i) (Nat.le_of_lt h)
  rw [h1, h2]
  have : Nat.beq j n = false := by
    cases hb : Nat.beq j n with
    | false => rfl
    | true => exact absurd (Nat.eq_of_beq_eq_true hb) (by omega)
  rw [this]
  rfl
theorem mOf_col {n i : Nat} {R : List (List Nat)} {b : List Nat} : mOf n R b ((n + 1) * i + n) = b.getD i 0 := by
  unfold mOf
  obtain ⟨h1, h2⟩ := div_w (i := i) (Nat.le_refl n)
  rw [h1, h2]
  have : Nat.beq n n = true := by simp
  rw [this]
  rfl
theorem lbList {α : Type} {n : Nat} {l : List α} (d : α) (h : l.length = n) : (List.range n).map (fun i => l.getD i d) = l := by
  subst h
  apply List.ext_getElem?
  intro i
  rw [List.getElem?_map]
  by_cases hi : i < l.length
  · rw [List.getElem?_range hi, List.getElem?_eq_getElem hi]
    simp [List.getD_eq_getElem?_getD, hi]
  · rw [List.getElem?_eq_none (by simp; omega), List.getElem?_eq_none (by omega)]
    rfl
theorem readS_inv {n : Nat} {vs : List V} {h : H} {m : Nat → Nat} (e : readS n vs h = some m) : vs = [.sl 0 0 n, .sl 1 0 n] ∧ h = hSol n m := by
  unfold readS at e
  split at e
  case h_2 => cases e
  rename_i i o l j q r ee hs b t
  split at e
  case h_2 => cases e
  rename_i R hR
  split at e
  case h_2 => cases e
  rename_i hb
  cases e
  simp only [Bool.and_eq_true] at hb
  obtain ⟨a1, a2, a3, a4, a5, a6, a7, a8, a9, a10, a11, a12⟩ := hb
  cases Nat.eq_of_beq_eq_true a1
  cases Nat.eq_of_beq_eq_true a2
  cases Nat.eq_of_beq_eq_true a4
  cases Nat.eq_of_beq_eq_true a5
  cases Nat.eq_of_beq_eq_true a7
  have b3 := Nat.eq_of_beq_eq_true a3
  have b6 := Nat.eq_of_beq_eq_true a6
  have b9 := Nat.eq_of_beq_eq_true a9
  have b10 := Nat.eq_of_beq_eq_true a10
  have b11 := Nat.eq_of_beq_eq_true a11
  refine ⟨by rw [b3, b6], ?_⟩
  unfold hSol
  have k1 : hs = mkH n 2 n := by have := hsB_inv a8; rw [b9] at this; exact this
  have k2 : colL n (mOf n R b) = b := by
    unfold colL
    rw [show (fun i => mOf n R b ((n + 1) * i + n)) = fun i => b.getD i 0 from funext fun i => mOf_col]
    exact lbList 0 b10
  have k3 : (List.range n).map (fun i => rowL n (mOf n R b) i) = R := by
    refine Eq.trans ?_ (lbList [] b11)
    apply List.map_congr_left
    intro i hi
    have hi : i < n := by simpa using hi
    unfold rowL
    refine Eq.trans ?_ (lbList 0 (lenB_get a12 i (by omega)))
    apply List.map_congr_left
    intro j hj
    exact mOf_row (by simpa using hj)
  rw [← k1, k2]
  have k4 := rowsB_inv hR
  rw [k4]
  refine congrArg _ (congrArg _ ?_)
  refine Eq.trans (congrArg (List.map fun l => B.at true (C.fl .f32 l)) k3.symm) ?_
  rw [List.map_map]
  rfl
theorem hSol_rw (n : Nat) (m : Nat → Nat) : allRw (hSol n m) = true := by
  unfold hSol
  show allRw ((List.range n).map _) = true
  generalize List.range n = l
  induction l with
  | nil => rfl
  | cons x l ih => exact ih
end Go.Proofs.Ytppdnhjcnjfppaa.Ab

namespace Go.Proofs.Ytppdnhjcnjfppaa.Ab
set_option linter.unusedVariables false
set_option linter.unusedSimpArgs false
open Go
def an_baI : Ann := ⟨fun r => if r = 21 then some ([0, 6, 80, 81], [0, 4, 5, 6]) else if r = 25 then some ([0, 6, 10, 11, 12, 80, 81], [0, 6, 10, 11, 80, 81]) else if r = 33 then some ([0, 6, 10, 13, 80, 81], [0, 6, 80, 81]) else none, fun _ _ => .quiet⟩
def tab_baI : Fns := tabT [(14, gRates), (15, gOut), (16, gMag), (17, gLsT)]
theorem tabok_baI : ∀ f, FnT Try.prog f (tab_baI f) := (tabT_cons (k := 14) ok_arI (tabT_cons (k := 15) ok_leI (tabT_cons (k := 16) ok_mag (tabT_cons (k := 17) ok_checkedNumbers tabT_nil))))
abbrev kpO_baI : Option (List Nat × List Nat) := some ([0, 6, 80, 81], [0, 4, 5, 6])
noncomputable def lpO_baI {R : Type} (b N M : Nat) (s : St) (K : X → St → Option R) : Option R := loopH b kpO_baI (fun st K => exec ty tab_baI an_baI N b (atOf [true, true, true, true, true, false, true, false, false] Try.f6) st K) M s K
noncomputable def bk_baI {R : Type} (b N M : Nat) (K : X → St → Option R) : X → St → Option R := fun x st => match x with | .norm => tidyK b (kpO_baI.map (·.1)) st fun st => lpO_baI b N M st K | x => tidyK b (kpO_baI.map (·.2)) st fun st => K x st
noncomputable def ktO_baI {R : Type} (b N : Nat) (K : X → St → Option R) : X → St → Option R := kBlkR 5 (kSeqR tab_baI an_baI N b (atOf [true, true, true, true, true, true] Try.f6) (K))
abbrev kpS_baI : Option (List Nat × List Nat) := some ([0, 6, 10, 11, 12, 80, 81], [0, 6, 10, 11, 80, 81])
noncomputable def lpS_baI {R : Type} (b N M : Nat) (s : St) (K : X → St → Option R) : Option R := loopH b kpS_baI (fun st K => exec ty tab_baI an_baI N b (atOf [true, true, true, true, true, false, true, false, false, true, true, false, false, true, true, false, true, false, false] Try.f6) st K) M s K
noncomputable def ktS_baI {R : Type} (b N : Nat) (K : X → St → Option R) : X → St → Option R := kBlkR 7 (kSeqR tab_baI an_baI N b (atOf [true, true, true, true, true, false, true, false, false, true, true, false, false, true, true, true] Try.f6) (kBlkR 6 (kSeqR tab_baI an_baI N b (atOf [true, true, true, true, true, false, true, false, false, true, true, true] Try.f6) (K))))
abbrev kpE_baI : Option (List Nat × List Nat) := some ([0, 6, 10, 13, 80, 81], [0, 6, 80, 81])
noncomputable def lpE_baI {R : Type} (b N M : Nat) (s : St) (K : X → St → Option R) : Option R := loopH b kpE_baI (fun st K => exec ty tab_baI an_baI N b (atOf [true, true, true, true, true, false, true, false, false, true, true, false, false, true, true, true, true, true, true, false, false] Try.f6) st K) M s K
noncomputable def ktE_baI {R : Type} (b N : Nat) (K : X → St → Option R) : X → St → Option R := kBlkR 9 (kBlkR 6 (kSeqR tab_baI an_baI N b (atOf [true, true, true, true, true, false, true, false, false, true, true, true] Try.f6) (K)))
end Go.Proofs.Ytppdnhjcnjfppaa.Ab
