/- What the proof names: lemmas and words, merged by a program from its parts. No condition. -/
import Derived.Test.YtpjoapgfdjfbdaaZ1
import Derived.LoopN
import Derived.Test.YtpjoapgfdjfbdaaProg
import Derived.KernelRfl
import Derived.Below
import Derived.ChangeSame
import Derived.ProofKit
import Derived.OpenShut
import Derived.Carry
import Derived.Laws.Externs
import Derived.Lib.AppendZerosOnto
import Derived.Lib.Walk
import Derived.Lib.SliceRun
import Derived.WalkKit
namespace Go.Proofs.Ytpjoapgfdjfbdaa.Ab
set_option linter.unusedVariables false
set_option linter.unusedSimpArgs false
open Go
def X.to : X → Exit
  | .norm => .normal
  | .exit id => .exit id
  | .ret => .ret
section
variable {P : Program} {R : Type} {r : R}
theorem adJ {keep : List Nat} : ∀ {t : List V} {n i : Nat}, nth (mask keep n t) i = nth t i ∨ nth (mask keep n t) i = V.any
  | [], _, _ => .inl rfl
  | v :: t, n, 0 => by simp only [mask, nth]; split; exact .inl rfl; exact .inr rfl
  | v :: t, n, i + 1 => adJ (t := t)
theorem adK {keep : List Nat} : ∀ {t : List V} {n : Nat}, (mask keep n t).length = t.length
  | [], _ => rfl
  | v :: t, n => by simp [mask, adK]
theorem ajF {ids : List Nat} {μ μ' : Mu} (hs : Sub ids μ μ') : ∀ {t t' : List V}, nN (V.ren ids) t = some t' → ∀ {i : Nat} {cv : Value}, kK μ (nth t i) cv → kK μ' (nth t' i) cv
  | [], t', e, i, cv, h => by
    cases e
    obtain ⟨cs, rfl, hh⟩ := h
    refine ⟨cs, rfl, ?_⟩
    cases cs with
    | nil => trivial
    | cons _ _ => exact hh.elim
  | v :: t, t', e, i, cv, h => by
    obtain ⟨y, m, e1, e2, rfl⟩ := nV e
    cases i with
    | zero => exact kK.ren hs e1 h
    | succ i => exact ajF hs e2 h
theorem QX {μ0 : Mu} {h0 : H} {w0 : World} {keep : Option (List Nat)} {st : St} {K : St → Option R} (e : anG μ0.l.length keep st K = some r) :
    ∃ st', K st' = some r ∧ ∀ μ a w, Inv μ0 h0 w0 μ st a w → ∃ μ', Inv μ0 h0 w0 μ' st' a w := by
  unfold anG at e
  split at e
  · exact ⟨st, e, fun μ a w hi => ⟨μ, hi⟩⟩
  · rename_i l
    dsimp only at e
    generalize ht : mask l 0 st.t = t at e
    generalize hids : close st.h 3 ((t.flatMap V.ids).foldl o9 (List.range μ0.l.length)) = ids at e
    split at e
    · cases e
    · rename_i t' ht'
      split at e
      · cases e
      · rename_i h' hh'
        refine ⟨_, e, fun μ a w hi => ?_⟩
        have hn : ids.Nodup := by rw [← hids]; exact yQ _ 3 (rD _ List.nodup_range)
        have hp : ∃ p, ids = List.range μ0.l.length ++ p := by
          obtain ⟨p, hp⟩ := yP (t.flatMap V.ids) (List.range μ0.l.length)
          obtain ⟨q, hq⟩ := YP st.h 3 ((t.flatMap V.ids).foldl o9 (List.range μ0.l.length))
          exact ⟨p ++ q, by rw [← hids, hq, hp, List.append_assoc]⟩
        obtain ⟨p, hp⟩ := hp
        obtain ⟨h1, h2⟩ := hi.ev.pick hp hn hh'
        refine ⟨pick μ ids, ⟨?_, fun i => ?_⟩, hi.defers, h1⟩
        · rw [hi.slots.1, x9 ht', ← ht, adK]
        · refine ajF h2 ht' ?_
          rw [← ht]
          rcases adJ (keep := l) (t := st.t) (n := 0) (i := i) with h3 | h3
          · rw [h3]; exact hi.slots.2 i
          · rw [h3]; trivial
theorem adL {μ0 : Mu} {h0 : H} {w0 : World} {kp : Option (List Nat × List Nat)} {c : Code} {body : St → (X → St → Option R) → Option R} {Q : Exit → Act → World → Prop}
    (hbody : ∀ {st : St} {K : X → St → Option R}, body st K = some r → ∀ Q', (∀ x st', K x st' = some r → ∀ μ a w, Inv μ0 h0 w0 μ st' a w → Q' (X.to x) a w) → ∀ μ a w, Inv μ0 h0 w0 μ st a w → c.wp P Q' a w)
    {K : X → St → Option R} (hQ : ∀ x st', K x st' = some r → ∀ μ a w, Inv μ0 h0 w0 μ st' a w → Q (X.to x) a w) :
    ∀ {n : Nat} {st : St}, pO μ0.l.length kp body n st K = some r → ∀ μ a w, Inv μ0 h0 w0 μ st a w → Code.rounds P c Q n a w
  | 0, st, e, _, _, _, _ => by cases e
  | n + 1, st, e, μ, a, w, hi => by
    simp only [pO] at e
    refine hbody e _ (fun x st' hx μ' a' w' hi' => ?_) μ a w hi
    cases x with
    | norm =>
      simp only at hx
      obtain ⟨st2, h1, h2⟩ := QX (h0 := h0) (w0 := w0) hx
      obtain ⟨μ2, hi2⟩ := h2 μ' a' w' hi'
      exact adL hbody hQ h1 μ2 a' w' hi2
    | exit id =>
      simp only at hx
      obtain ⟨st2, h1, h2⟩ := QX (h0 := h0) (w0 := w0) hx
      obtain ⟨μ2, hi2⟩ := h2 μ' a' w' hi'
      exact hQ _ st2 h1 μ2 a' w' hi2
    | ret =>
      simp only at hx
      obtain ⟨st2, h1, h2⟩ := QX (h0 := h0) (w0 := w0) hx
      obtain ⟨μ2, hi2⟩ := h2 μ' a' w' hi'
      exact hQ _ st2 h1 μ2 a' w' hi2
theorem aNO {ty : Ty} (hty : tJ P ty) {fns : Fns} (hfn : ∀ f, FnT P f (fns f)) (hm : P.follows .mixedOrders = true) {an : Ann} {N : Nat} {μ0 : Mu} {h0 : H} {w0 : World} :
    ∀ (c : Code) {st : St} {K : X → St → Option R}, exec ty fns an N μ0.l.length c st K = some r →
      ∀ Q, (∀ x st', K x st' = some r → ∀ μ a w, Inv μ0 h0 w0 μ st' a w → Q (X.to x) a w) → ∀ μ a w, Inv μ0 h0 w0 μ st a w → c.wp P Q a w := by
  intro c
  induction c with
  | skip => intro st K e Q hQ μ a w hi; exact wp_skip (hQ .norm st e μ a w hi)
  | label l => intro st K e Q hQ μ a w hi; exact wp_label (hQ .norm st e μ a w hi)
  | region id ops draw =>
    intro st K e Q hQ μ a w hi
    simp only [exec] at e
    split at e
    · split at e
      · rename_i hok
        obtain ⟨t', h', h1, h2⟩ := rE hty hfn e
        exact wp_region_any hm (awV (fun μ a w hi => hQ .norm _ h1 μ a w hi) hok h2 ⟨hi.slots, hi.defers, hi.ev.trans (Ev.drewN hi.ev.rel 1)⟩)
      · cases e
    · obtain ⟨t', h', h1, h2⟩ := rE hty hfn e
      exact wp_region_list (aFL (fun μ a w hi => hQ .norm _ h1 μ a w hi) h2 hi)
  | seq x y ihx ihy =>
    intro st K e Q hQ μ a w hi
    simp only [exec] at e
    refine wp_seq (ihx e _ (fun x st' hx μ' a' w' hi' => ?_) μ a w hi)
    cases x with
    | norm => exact ihy hx Q hQ μ' a' w' hi'
    | exit id => exact hQ _ st' hx μ' a' w' hi'
    | ret => exact hQ _ st' hx μ' a' w' hi'
  | cond c x y ihx ihy =>
    intro st K e Q hQ μ a w hi
    simp only [exec] at e
    split at e
    · rename_i p hc
      have h1 := ajB hi.slots c
      rw [hc] at h1
      split at e
      · exact wp_cond_true (oH h1) (ihx e Q hQ μ a w hi)
      · exact wp_cond_false (oH h1) (ihy e Q hQ μ a w hi)
    · cases e
  | block id b ih =>
    intro st K e Q hQ μ a w hi
    simp only [exec] at e
    refine wp_block (ih e _ (fun x st' hx μ' a' w' hi' => ?_) μ a w hi)
    cases x with
    | norm => exact hQ _ st' hx μ' a' w' hi'
    | exit j =>
      simp only at hx
      simp only [X.to, Exit.inBlock]
      split at hx
      · rename_i hj
        simp only [decide_eq_true_eq] at hj
        rw [if_pos hj]
        exact hQ _ st' hx μ' a' w' hi'
      · rename_i hj
        simp only [decide_eq_false_iff_not] at hj
        rw [if_neg hj]
        exact hQ _ st' hx μ' a' w' hi'
    | ret => exact hQ _ st' hx μ' a' w' hi'
  | loop b ih =>
    intro st K e Q hQ μ a w hi
    simp only [exec, awP] at e
    obtain ⟨st', h1, h2⟩ := QX (h0 := h0) (w0 := w0) e
    obtain ⟨μ', hi'⟩ := h2 μ a w hi
    exact wp_loop_rounds _ (adL (fun hb Q' hQ' => ih hb Q' hQ') hQ h1 μ' a w hi')
  | rangeFunc f ps x y _ _ => intro st K e; simp only [exec] at e; cases e
  | exit id => intro st K e Q hQ μ a w hi; exact wp_exit (hQ (.exit id) st e μ a w hi)
  | scope b _ => intro st K e; simp only [exec] at e; cases e
  | goto l => intro st K e; simp only [exec] at e; cases e
  | ret => intro st K e Q hQ μ a w hi; exact wp_ret (hQ .ret st e μ a w hi)
  | refuse s => intro st K e; simp only [exec] at e; cases e
theorem YY {μ : Mu} {n : Nat} : ∀ {vs : List V} {cvs : List Value}, uX μ vs cvs → vs.length = cvs.length ∧ ∀ i, kK μ (nth (vs ++ List.replicate n V.no) i) (((cvs ++ List.replicate n undef)[i]?).getD undef)
  | [], [], _ => ⟨rfl, fun i => by
      have : ∀ (n i : Nat), nth (List.replicate n V.no) i = V.no := by
        intro n
        induction n with
        | zero => intro i; rfl
        | succ n ih => intro i; cases i with | zero => rfl | succ i => exact ih i
      simp only [List.nil_append, this]
      have : ((List.replicate n undef)[i]?).getD undef = undef := by rw [List.getElem?_replicate]; split <;> rfl
      rw [this]
      exact kK.no μ⟩
  | v :: vs, c :: cvs, h => by
    obtain ⟨h1, h2⟩ := YY (n := n) h.2
    refine ⟨by simp [h1], fun i => ?_⟩
    cases i with
    | zero => exact h.1
    | succ i => exact h2 i
theorem ag4 {ty : Ty} (hty : tJ P ty) {fn : Func} {μ : Mu} {h : H} {w : World} {v : V} {h' : H} :
    ∀ st a w', finish ty fn μ.l.length st = some (v, h') → ∀ μ', Inv μ h w μ' st a w' → a.defers = [] ∧ ∃ cv, (results fn a.tmps).run P w' = .ok cv w' ∧ ∃ cv', Ending.returned cv = .returned cv' ∧ Goes μ h w v h' cv' w' := by
  intro st a w' hfin μ' hi
  refine ⟨hi.defers, ?_⟩
  unfold finish at hfin
  split at hfin
  · cases hfin
  · rename_i u hu
    dsimp only at hfin
    generalize hids : close st.h 3 ((u.ids).foldl o9 (List.range μ.l.length)) = ids at hfin
    split at hfin
    · cases hfin
    · rename_i u' hu'
      split at hfin
      · cases hfin
      · rename_i h2 hh2
        cases hfin
        have hn : ids.Nodup := by rw [← hids]; exact yQ _ 3 (rD _ List.nodup_range)
        obtain ⟨p, hp⟩ : ∃ p, ids = List.range μ.l.length ++ p := by
          obtain ⟨p, hp⟩ := yP u.ids (List.range μ.l.length)
          obtain ⟨q, hq⟩ := YP st.h 3 ((u.ids).foldl o9 (List.range μ.l.length))
          exact ⟨p ++ q, by rw [← hids, hq, hp, List.append_assoc]⟩
        obtain ⟨k1, k2⟩ := hi.ev.pick hp hn hh2
        have hres : ∃ cv, (results fn a.tmps).run P w' = .ok cv w' ∧ kK μ' u cv := by
          unfold aT8 at hu
          split at hu
          · rename_i rr hrr
            cases hu
            have hrr' : fn.results = #[.tmp rr] := by apply Array.toList_inj.1; simpa using hrr
            exact ⟨_, results_tmp hrr' _ _ _, hi.slots.2 rr⟩
          · rename_i bb tt hrr
            have hrr' : fn.results = #[.cell bb tt] := by apply Array.toList_inj.1; simpa using hrr
            obtain ⟨v2, hv2, hall⟩ := Z9 hty hu
            cases hv2
            obtain ⟨cv, q1, q2⟩ := hall μ' _ (hi.slots.2 bb) w' hi.ev.rel
            refine ⟨cv, ?_, q2⟩
            unfold results
            rw [hrr', Array.mapM_eq_mapM_toList]
            simp only [List.mapM_cons, List.mapM_nil]
            simp only [Sem.run_bind, Sem.run_map, Sem.run_pure, Result.andThen] at q1 ⊢
            rw [q1]
            simp
          · rename_i hnot hnot2
            simp only [Option.map_eq_some_iff] at hu
            obtain ⟨us, hus, rfl⟩ := hu
            have key : ∀ (l : List ResultVar) (us : List U), nN (fun r => match r with | .tmp r => (match nth st.t r with | .u x => some x | _ => none) | .cell b tt => (match ZX ty st.h tt (nth st.t b) some with | some (.u x) => some x | _ => none)) l = some us →
                ∃ cs : List Value, (l.mapM (fun (x : ResultVar) => match x with | .tmp t => (pure (a.tmps.getD t undef) : Sem Value) | .cell b t => (do loadVar t (← asAddr (a.tmps.getD b undef)) : Sem Value)) : Sem (List Value)).run P w' = .ok cs w' ∧ IW μ' us cs ∧ cs.length = l.length := by
              intro l
              induction l with
              | nil => intro us e; cases e; exact ⟨[], by simp, trivial, rfl⟩
              | cons x l ih =>
                intro us e
                obtain ⟨y, m, e1, e2, rfl⟩ := nV e
                obtain ⟨cs, q1, q2, q3⟩ := ih m e2
                cases x with
                | cell b t =>
                  simp only at e1
                  split at e1
                  · rename_i z hz
                    cases e1
                    obtain ⟨v2, hv2, hall⟩ := Z9 hty hz
                    cases hv2
                    obtain ⟨cv, r1, r2⟩ := hall μ' _ (hi.slots.2 b) w' hi.ev.rel
                    refine ⟨cv :: cs, ?_, ⟨r2, q2⟩, by simp [q3]⟩
                    rw [List.mapM_cons]
                    simp only [Sem.run_bind, Sem.run_pure, Result.andThen, q1] at r1 ⊢
                    rw [r1]
                    simp only [q1]
                  · cases e1
                | tmp b =>
                  simp only at e1
                  split at e1
                  · rename_i z hz
                    cases e1
                    have hs := hi.slots.2 b
                    rw [hz] at hs
                    refine ⟨a.tmps.getD b undef :: cs, ?_, ⟨hs, q2⟩, by simp [q3]⟩
                    rw [List.mapM_cons]
                    simp only [Sem.run_bind, Sem.run_pure, Result.andThen, q1]
                  · cases e1
            obtain ⟨cs, q1, q2, q3⟩ := key _ _ hus
            have hne : cs.length ≠ 1 := by
              intro h1
              rw [q3] at h1
              obtain ⟨x, hx⟩ := List.length_eq_one_iff.1 h1
              cases x with
              | tmp b => exact hnot b hx
              | cell b t => exact hnot2 b t hx
            refine ⟨.tuple ⟨cs⟩, ?_, ⟨cs, rfl, q2⟩⟩
            unfold results
            rw [Array.mapM_eq_mapM_toList]
            simp only [Sem.run_bind, Sem.run_map]
            erw [q1]
            simp only [Result.andThen]
            rw [dif_neg (by simpa using hne)]
            rfl
        obtain ⟨cv, q1, q2⟩ := hres
        exact ⟨cv, q1, cv, rfl, _, k1, q2.ren k2 hu'⟩
theorem aYE {ty : Ty} (hty : tJ P ty) {fns : Fns} (hfn : ∀ f, FnT P f (fns f)) (hm : P.follows .mixedOrders = true) {f : FuncId} {fn : Func} {code : Code} (hf : P.funcs[f]? = some fn) (hb : fn.body = some code)
    (hname : (fn.name == "runtime.NumGoroutine") = false) {g : List V → H → T} (an : Ann)
    (H : ∀ vs h v h', (g vs h).run = some (v, h') → ∃ N, run ty fns an N fn vs h = some (v, h')) : FnT P f g := by
  intro vs h v h' hg μ w cvs hr hv
  left
  obtain ⟨N, hrun⟩ := H vs h v h' hg
  refine ⟨?_, ?_⟩
  · have hname' : ¬ (fn.name = "runtime.NumGoroutine") := by simpa using hname
    simp [callFunc, hf, hname', hb]
  · refine calls_of_wp hf hb ?_
    unfold run at hrun
    rw [hb] at hrun
    dsimp only at hrun
    rw [← hr.len] at hrun
    obtain ⟨hlen, hnth⟩ := YY (n := fn.ntmps - vs.length) hv
    have hinv : Inv μ h w μ ⟨vs ++ List.replicate (fn.ntmps - vs.length) V.no, h⟩ { tmps := ⟨cvs⟩ ++ Array.replicate (fn.ntmps - (⟨cvs⟩ : Array Value).size) undef, defers := [] } w := by
      refine ⟨⟨by simp [hlen], fun i => ?_⟩, rfl, Ev.refl hr⟩
      have := hnth i
      rw [Array.getD_eq_getD_getElem?]
      have e : ((⟨cvs⟩ : Array Value) ++ Array.replicate (fn.ntmps - (⟨cvs⟩ : Array Value).size) undef)[i]? = (cvs ++ List.replicate (fn.ntmps - vs.length) undef)[i]? := by
        rw [← Array.getElem?_toList, Array.toList_append, Array.toList_replicate]
        rw [show (⟨cvs⟩ : Array Value).size = vs.length from hlen.symm]
      rw [e]
      exact this
    have hend := ag4 (P := P) (fn := fn) (μ := μ) (h := h) (w := w) (v := v) (h' := h') hty
    refine aNO hty hfn hm code hrun _ (fun x st' hx μ' a' w' hi' => ?_) μ _ w hinv
    cases x with
    | norm => exact hend st' a' w' hx μ' hi'
    | exit id => cases hx
    | ret => exact hend st' a' w' hx μ' hi'
end
def aYF : List (Option TyI) := [
  none,
  none,
  some ⟨false, 1, 8, [.int .i64 0], .int .i64⟩,
  some ⟨false, 1, 8, [.int .i64 0], .int .i64⟩,
  some ⟨false, 1, 1, [.bool false], .bool⟩,
  some ⟨false, 1, 1, [.int .u8 0], .int .u8⟩,
  none,
  none,
  none,
  none,
  none,
  none,
  none,
  none,
  none,
  none,
  none,
  none,
  none,
  none,
  none,
  some ⟨false, 1, 4, [.int .i32 0], .int .i32⟩,
  some ⟨false, 1, 24, [.nil], .slice 5⟩,
  none,
  none,
  some ⟨false, 1, 24, [.nil], .slice 29⟩,
  some ⟨true, 2, 48, [.nil, .nil], .struct [(0, 25), (1, 25)]⟩,
  some ⟨true, 2, 48, [.nil, .nil], .struct [(0, 25), (1, 25)]⟩,
  none,
  some ⟨false, 1, 4, [.fl .f32 0], .fl .f32⟩,
  none,
  none,
  none,
  none,
  some ⟨false, 1, 24, [.nil], .slice 37⟩,
  none,
  none,
  some ⟨false, 1, 8, [.cx .f32 0 0], .cx .f32⟩,
  none,
  none,
  none,
  none,
  some ⟨false, 1, 8, [.fl .f64 0], .fl .f64⟩,
  none,
  none,
  none,
  none,
  none,
  none,
  none,
  none,
  none,
  none,
  none,
  none,
  none,
  none,
  none,
  none,
  none,
  none,
  none,
  none,
  none,
  none,
  none,
  none,
  none,
  none,
  none,
  none,
  none,
  none,
  some ⟨false, 1, 8, [.int .u64 0], .int .u64⟩,
  some ⟨true, 3, 40, [.nil, .int .i64 0, .int .u64 0], .struct [(0, 22), (1, 3), (2, 73)]⟩,
  some ⟨true, 3, 40, [.nil, .int .i64 0, .int .u64 0], .struct [(0, 22), (1, 3), (2, 73)]⟩,
  none,
  none,
  none,
  none,
  none,
  none,
  none,
  none,
  none,
  none,
  none,
  none,
  none,
  none,
  none,
  none,
  some ⟨false, 1, 24, [.nil], .slice 25⟩,
  none,
  some ⟨false, 1, 8, [.int .u64 0], .int .u64⟩,
  none,
  none,
  none,
  none,
  none,
  none,
  none,
  none,
  some ⟨false, 1, 4, [.int .u32 0], .int .u32⟩,
  none,
  none,
  none,
  none,
  none,
  none,
  none,
  none,
  none
]
def ty : Ty := fun t => match aYF[t]? with | some o => o | none => none
theorem abV : tJ Try.prog ty := aNC (by kernel_rfl)
theorem mixed : Try.prog.follows .mixedOrders = true := by kernel_rfl
end Go.Proofs.Ytpjoapgfdjfbdaa.Ab
namespace Go.Proofs.Ytpjoapgfdjfbdaa.Ab
set_option linter.unusedVariables false
set_option linter.unusedSimpArgs false
open Go Go.RowKit Go.WideShapes Go.ChangeShapes
abbrev G := List V → H → Option (V × H)
def aYG (P : Program) (f : FuncId) (g : G) : Prop := FnT P f fun vs h => T.of (g vs h)
abbrev GT := List V → H → T
def tab : List (FuncId × G) → Fns
  | [] => fun _ _ _ => .no
  | (k, g) :: l => fun f => if f = k then fun vs h => T.of (g vs h) else tab l f
abbrev gT (g : G) : GT := fun vs h => T.of (g vs h)
def gX : List (FuncId × GT) → Fns
  | [] => fun _ _ _ => .no
  | (k, g) :: l => fun f => if f = k then g else gX l f
theorem bJ {P : Program} : ∀ f, FnT P f (gX [] f) := fun _ _ _ _ _ h => by cases h
theorem aC {P : Program} {k : FuncId} {g : GT} {l : List (FuncId × GT)} (h : FnT P k g) (t : ∀ f, FnT P f (gX l f)) : ∀ f, FnT P f (gX ((k, g) :: l) f) := by
  intro f
  simp only [gX]
  split
  · rename_i e; subst e; exact h
  · exact t f
def fB : Ann := ⟨fun _ => none, fun _ _ => .quiet⟩
theorem fnT {f : FuncId} {fn : Func} {code : Code} {fns : Fns} (hfn : ∀ f, FnT Try.prog f (fns f)) (hf : Try.prog.funcs[f]? = some fn) (hb : fn.body = some code) (hn : (fn.name == "runtime.NumGoroutine") = false) {g : GT} (an : Ann)
    (H : ∀ vs h v h', (g vs h).run = some (v, h') → ∃ N, run ty fns an N fn vs h = some (v, h')) : FnT Try.prog f g :=
  aYE abV hfn mixed hf hb hn an H
theorem FnT.as {P : Program} {f : FuncId} {g g' : GT} (h : FnT P f g) (e : ∀ vs h, (g' vs h).run = (g vs h).run) : FnT P f g' := fun vs hp v h' e' => h vs hp v h' (by rw [← e]; exact e')
theorem law_calls {f : FuncId} {fn : Func} {code : Code} {g : G} (hok : aYG Try.prog f g) (hf : Try.prog.funcs[f]? = some fn) (hb : fn.body = some code) (hn : (fn.name == "runtime.NumGoroutine") = false)
    {vs : List V} {cvs : List Value} {h h' : H} {μ : Mu} {w : World} (hg : g vs h = some (.bool true, h')) (hr : Rel μ h w) (hv : uX μ vs cvs) (hro : ∀ k, ¬ Wr μ h k) :
    Calls Try.prog f ⟨cvs⟩ w fun e w' => e = .returned (.bool true) ∧ Below w.heap.size w w' := by
  have hn' : ¬ (fn.name = "runtime.NumGoroutine") := by simpa using hn
  have hrun : (callFunc f ⟨cvs⟩).run Try.prog w = .ok (.enter f ⟨cvs⟩) w := by simp [callFunc, hf, hn', hb]
  rcases hok vs h _ h' (by rw [T.run_of]; exact hg) μ w cvs hr hv with ⟨_, h2⟩ | ⟨cv, w', h1, _⟩
  · refine h2.mono fun e w' ⟨cv, h3, μ', he, hcv⟩ => ?_
    cases oH hcv
    exact ⟨h3, he.fr.os, he.fr.tape, he.fr.output, he.fr.size, fun k hk => he.fr.block k hk (hro k)⟩
  · rw [hrun] at h1
    cases h1
theorem Rel.none (w : World) : Rel ⟨noZ, []⟩ [] w := ⟨rfl, fun i m rw c h => by simp at h, fun i m c h => by simp at h, fun i m rw c h => by simp at h, fun i j m n c rw d _ h => by simp at h, fun k cur h => by cases h⟩
section
variable {H : Type} {enc : TypeId × Value → H} {P : Program}
theorem post_of_below {f : Func} {s : ChangeSpec} {apart fresh handsOn again : Bool} {W W' : World} {args : Array Value} {v : Value} {ds gs : List (DataW H)} {before pa pv : List MemPlace}
    (hW : DataW.Whole enc P f.params.toList s.vars apart W args.toList ds gs before)
    (hres : ∀ (b : Nat) (sp : Nat → Bool) (hd : Bool), DataW.TrodAll enc P W' b sp hd f.resultTypes.toList (v.resultList f.resultTypes.size) (s.fn H (ds ++ gs)).results [])
    (hargs : ∀ sp : Nat → Bool, (∀ p ∈ before, sp p.block = true) → DataW.TrodAll enc P W' 0 sp true f.params.toList args.toList (s.fn H (ds ++ gs)).args pa)
    (hvars : ∀ sp : Nat → Bool, (∀ p ∈ before, sp p.block = true) → DataW.TrodVars enc P W' sp s.vars (s.fn H (ds ++ gs)).vars pv)
    (hps : before = pa ++ pv) (hb : Below W.heap.size W W')
    (hok : ∀ (j : Nat) (t : TypeId) (r : Value), f.resultTypes[j]? = some t → (v.resultList f.resultTypes.size)[j]? = some r → Value.okWide P W' .any 0 t r) :
    s.post enc P f apart fresh handsOn again W args v W' := by
  have hlt : ∀ p ∈ before, p.block < W.heap.size := fun p hp => hW.lt p hp
  have hold : ∀ p ∈ before, (fun b => decide (b < W.heap.size)) p.block = true := fun p hp => by simpa using hlt p hp
  refine ⟨ds, gs, before, [], pa, pv, hW, hres _ _ _, hargs _ hold, hvars _ hold, World.keptBut_mono (fun p hp => ⟨hp, ?_⟩) (hb.frame (· ∈ before)), fun _ => ?_⟩
  · rw [hps, List.mem_append] at hp
    exact Or.inr hp
  · obtain ⟨_, _, _, _, _, hz, hn⟩ := hW
    refine ⟨hok, _, _, ([] ++ pa) ++ pv, ⟨[] ++ pa, pv, trodAll_append (hargs _ (fun _ _ => rfl)) (hres _ _ _), hvars _ (fun _ _ => rfl), rfl, ?_, ?_⟩, ?_⟩
    · intro b off hp
      have hin : MemPlace.cell b off ∈ before := by rw [hps]; simpa using hp
      rw [hb.frozen (hlt _ hin)]
      exact hz b off hin
    · intro ha
      have := hn ha
      rw [hps] at this
      simpa using this
    · intro p hp _
      rw [hps]
      simpa using hp
end
end Go.Proofs.Ytpjoapgfdjfbdaa.Ab
namespace Go.Proofs.Ytpjoapgfdjfbdaa.Ab
set_option linter.unusedVariables false
set_option linter.unusedSimpArgs false
open Go Go.ChangeShapes Go.WideShapes Go.RowKit
section
variable {H : Type} {enc : TypeId × Value → H} {P : Program} {w : World} {base : Nat} {spare : Nat → Bool} {held : Bool} {fuel : Nat} {t : TypeId} {cs : List Value} {x : DataW H × List MemPlace}
theorem awW {α : Type} {p : Nat → α → Prop} : ∀ n, (∀ i, i < n → ∃ x, p i x) → ∃ l : List α, l.length = n ∧ ∀ i x, l[i]? = some x → p i x
  | 0, _ => ⟨[], rfl, fun i x h => by simp at h⟩
  | n + 1, h => by
    obtain ⟨l, h1, h2⟩ := awW n (fun i hi => h i (by omega))
    obtain ⟨x, hx⟩ := h n (by omega)
    refine ⟨l ++ [x], by simp [h1], fun i y hy => ?_⟩
    by_cases hi : i < l.length
    · rw [List.getElem?_append_left hi] at hy
      exact h2 i y hy
    · rw [List.getElem?_append_right (by omega)] at hy
      have hlt : i - l.length < 1 := by simpa using (List.getElem?_eq_some_iff.1 hy).1
      have e : i = n := by omega
      subst e
      rw [show i - l.length = 0 by omega] at hy
      simp at hy
      subst hy
      exact hx
theorem arL {W : World} {e : TypeId} {v : Value} {d : DataW H} {ps : List MemPlace} {r : Reach} {b0 : Nat} {Q : Value → Prop} (ht : P.underlying t = some (.slice e)) (hc : P.cellsOf e = 1)
    (hQ : ∀ n cs y, DataW.trod enc P W 0 (fun _ => true) true n e cs = some y → ∃ u, cs = [u] ∧ Q u)
    (hval : Value.okWide P W r b0 t v) (hd : DataW.Trod enc P W 0 (fun _ => true) true t v d ps) :
    v = .slice none 0 0 ∨ ∃ b off len cap, v = .slice (some ⟨b, off, none⟩) len cap ∧ len ≤ cap ∧ cap ≤ maxLen ∧ b < W.heap.size ∧ ∀ i, i < len → ∃ u, W.cell? ⟨b, off + i, none⟩ = some u ∧ Q u := by
  obtain ⟨a0, l0, c0, rfl⟩ := okWide_slice ht hval
  obtain ⟨fuel, hf⟩ := hd
  rcases DataW.trod_slice ht hf with ⟨hcs, _⟩ | ⟨a, len, cap, elems, rest, n, _, hcs, hx, hb, hl, hm, hlen, hel, _⟩
  · left
    simpa [Value.cells] using hcs
  · right
    have hcs' : a0 = some a ∧ l0 = len ∧ c0 = cap := by simpa [Value.cells] using hcs
    obtain ⟨rfl, rfl, rfl⟩ := hcs'
    obtain ⟨b, off, spot⟩ := a
    simp only [Value.okWide, ht, Cell.okWide, Cell.ok, World.has] at hval
    obtain ⟨_, _, _, hsp, row, cells, hsh, _⟩ := hval
    have hsp : spot = none := hsp
    subst hsp
    have hlt : b < W.heap.size := by
      unfold World.shape? at hsh
      by_cases h : b < W.heap.size
      · exact h
      · rw [Array.getElem?_eq_none (by omega)] at hsh
        cases hsh
    refine ⟨b, off, l0, c0, rfl, hl, hm, hlt, fun i hi => ?_⟩
    have h1 := hel i hi
    rw [hc, Nat.mul_one] at h1
    have hi' : i < elems.length := by omega
    rw [List.getElem?_eq_getElem hi', Option.bind_eq_some_iff] at h1
    obtain ⟨cs', h2, h3⟩ := h1
    obtain ⟨u, rfl, hu⟩ := hQ _ _ _ h3
    refine ⟨u, ?_, hu⟩
    have := cell_of_cells?_one h2
    rwa [add_plain] at this
end
def RoB (w : World) (m : M) (b : B) : Prop := ∃ c, b = .at false c ∧ m.blk < w.heap.size ∧ ∀ p x, c.get? p = some x → ∃ u, w.cell? ⟨m.blk, m.off + p, none⟩ = some u ∧ ∀ μ, oQ μ x u
def az7 (w : World) : List M → List B → Prop
  | [], [] => True
  | m :: μ, b :: h => RoB w m b ∧ az7 w μ h
  | _, _ => False
theorem az7.get {w : World} : ∀ {μ : List M} {h : List B}, az7 w μ h → μ.length = h.length ∧ ∀ (i : Nat) (m : M) (b : B), μ[i]? = some m → h[i]? = some b → RoB w m b
  | [], [], _ => ⟨rfl, fun i m b hm _ => by simp at hm⟩
  | m :: μ, b :: h, ⟨h1, h2⟩ => by
    obtain ⟨h3, h4⟩ := az7.get h2
    refine ⟨by simp [h3], fun i m' b' hm hb => ?_⟩
    cases i with
    | zero => simp at hm hb; subst hm; subst hb; exact h1
    | succ i => exact h4 i m' b' (by simpa using hm) (by simpa using hb)
theorem Rel.ro {w : World} {μ : List M} {h : List B} (hr : az7 w μ h) : Rel ⟨noZ, μ⟩ h w := by
  obtain ⟨h1, h2⟩ := hr.get
  refine ⟨h1, fun i m rw c hm hb j x hx => ?_, fun i m c hm hb => ?_, fun i m rw c hm hb _ => ?_, fun i j m n c rw d _ hm _ hb _ _ => ?_, fun k cur h => by cases h⟩
  · obtain ⟨c', e, _, hc⟩ := h2 i m _ hm hb
    cases e
    obtain ⟨u, hu, hr⟩ := hc j x hx
    exact ⟨u, hu, hr _⟩
  · obtain ⟨c', e, _⟩ := h2 i m _ hm hb
    cases e
  · exact (h2 i m _ hm hb).choose_spec.2.1
  · obtain ⟨c', e, _⟩ := h2 i m _ hm hb
    cases e
theorem not_wr_ro {w : World} {μ : List M} {h : List B} (hr : az7 w μ h) (k : Nat) : ¬ Wr ⟨noZ, μ⟩ h k := by
  rintro ⟨i, m, c, hm, hb, _⟩
  obtain ⟨c', e, _⟩ := hr.get.2 i m _ hm hb
  cases e
section
variable {H : Type} {enc : TypeId × Value → H} {P : Program} {t e : TypeId} {W : World} {v : Value} {d : DataW H} {ps : List MemPlace} {r : Reach} {b0 : Nat}
theorem open_ints' {k : IntKind} (ht : P.underlying t = some (.slice e)) (he : P.underlying e = some (.int k)) (hc : P.cellsOf e = 1)
    (hval : Value.okWide P W r b0 t v) (hd : DataW.Trod enc P W 0 (fun _ => true) true t v d ps) :
    v = .slice none 0 0 ∨ ∃ (m : M) (l : List Int), RoB W m (.at false (.int k l)) ∧ (∀ z ∈ l, (Lit.int k z).wf = true) ∧ ∀ (μ : Mu) i, μ.l[i]? = some m → oQ μ (.sl i 0 l.length) v := by
  rcases arL (Q := fun u => ∃ z, u = .int k z ∧ (Lit.int k z).wf = true) ht hc (fun n cs y h => by obtain ⟨b, h1, _, h2⟩ := DataW.trod_int he h; exact ⟨_, h1, b, rfl, h2⟩) hval hd with h | ⟨b, off, len, cap, rfl, h1, h2, h3, h4⟩
  · exact .inl h
  · right
    obtain ⟨zs, hz, hzs⟩ := awW (p := fun i z => W.cell? ⟨b, off + i, none⟩ = some (.int k z) ∧ (Lit.int k z).wf = true) len (fun i hi => by obtain ⟨u, hu, z, rfl, hw⟩ := h4 i hi; exact ⟨z, hu, hw⟩)
    refine ⟨⟨b, off, false, 0, 0, 0⟩, zs, ⟨_, rfl, h3, fun p x hx => ?_⟩, fun z hz' => ?_, fun μ i hm => ⟨_, ⟨b, off + 0, none⟩, cap, hm, by rw [hz, Nat.add_zero], by rw [hz]; exact h1, h2, fun _ => rfl, fun _ ho => by cases ho⟩⟩
    · unfold C.get? C.getK at hx
      cases hp : zs[p]? with
      | none => simp only [hp] at hx; cases hx
      | some z =>
        simp only [hp] at hx
        cases hx
        exact ⟨_, (hzs p z hp).1, fun μ => rfl⟩
    · obtain ⟨i, hi⟩ := List.getElem?_of_mem hz'
      exact (hzs i z hi).2
end
end Go.Proofs.Ytpjoapgfdjfbdaa.Ab
namespace Go.Proofs.Ytpjoapgfdjfbdaa.Ab
set_option linter.unusedVariables false
set_option linter.unusedSimpArgs false
open Go
def iH (x : Nat) : Bool := FloatKind.f32.format.order (fop .sub .f32 x x) 0 == some .eq
def ltB (x y : Nat) : Bool := FloatKind.f32.format.order x y == some .lt
def gtB (x y : Nat) : Bool := FloatKind.f32.format.order x y == some .gt
def eqB (x y : Nat) : Bool := FloatKind.f32.format.order x y == some .eq
theorem ag5 {x : Nat} (h : iH x = true) (hn : isN .f32 x = true) : False := by
  unfold iH at h
  have h1 : fop .sub .f32 x x = rC .f32 := by
    unfold fop
    cases e : floatBits .sub .f32 x x with
    | none => rfl
    | some r => have := yE e; rw [hn] at this; exact absurd this.1 (by decide)
  rw [h1, pW (Or.inl (zS _))] at h
  exact absurd h (by decide)
theorem arM {x y : Nat} (hx : isN .f32 x = false) (hy : isN .f32 y = false) : ∃ o, FloatKind.f32.format.order x y = some o := by
  unfold isN at hx hy
  unfold Ieee.Format.order
  have hx' : (FloatKind.f32.format.read x).isNaN = false := hx
  have hy' : (FloatKind.f32.format.read y).isNaN = false := hy
  revert hx' hy'
  cases FloatKind.f32.format.read x <;> cases FloatKind.f32.format.read y <;> intro a b <;> first | exact ⟨_, rfl⟩ | exact Bool.noConfusion (show true = false from a) | exact Bool.noConfusion (show true = false from b)
theorem aNP {x : Nat} (h : iH x = true) : ∃ o, FloatKind.f32.format.order x 0 = some o := by
  cases hn : isN .f32 x with
  | true => exact (ag5 h hn).elim
  | false => exact arM hn (by decide)
theorem aFM (b : Nat) : ∃ y, fF .f32 b .f64 = some y := by
  unfold fF
  rw [if_neg (by decide)]
  split
  · exact ⟨_, rfl⟩
  · rename_i hn
    unfold floatToFloatBits
    rw [if_neg (by decide)]
    cases hd : FloatKind.f32.decode b with
    | nan s f => rw [hd] at hn; exact absurd rfl hn
    | infinity s => exact ⟨_, rfl⟩
    | number s m e =>
      have hb : m < 2 ^ 24 ∧ -149 ≤ e ∧ e ≤ 104 := by
        have hd' : Ieee.single.read b = .number s m e := hd
        unfold Ieee.Format.read at hd'
        have c1 : Ieee.single.signWeight = 2147483648 := by decide
        have c2 : Ieee.single.binade = 8388608 := by decide
        have c3 : Ieee.single.infRung = 2139095040 := by decide
        have c4 : Ieee.single.leastPlace = -149 := by decide
        simp only [c1, c2, c3, c4] at hd'
        split at hd'
        · simp only [Ieee.Datum.number.injEq] at hd'; omega
        · split at hd'
          · simp only [Ieee.Datum.number.injEq] at hd'; omega
          · split at hd' <;> cases hd'
      have hi : (FloatKind.f64.decode (FloatKind.f64.encode (.number s m e))).isInfinity = false := by
        show (Ieee.double.read (Ieee.double.nearest s m e)).isInfinity = false
        have c1 : Ieee.double.signWeight = 9223372036854775808 := by decide
        have c2 : Ieee.double.binade = 4503599627370496 := by decide
        have c3 : Ieee.double.infRung = 9218868437227405312 := by decide
        have c4 : Ieee.double.leastPlace = -1074 := by decide
        have c5 : Ieee.double.fractionBits = 52 := by decide
        have fin : ∀ r : Nat, r < 9218868437227405312 → (Ieee.double.read (Ieee.double.word s r)).isInfinity = false := by
          intro r hr
          unfold Ieee.Format.read Ieee.Format.word
          simp only [c1, c2, c3, c4]
          have hm : (if s = true then 9223372036854775808 + r else r) % 9223372036854775808 = r := by split <;> omega
          rw [hm]
          split
          · rfl
          · first | rfl | (rw [if_pos hr]; rfl)
        unfold Ieee.Format.nearest
        split
        · exact fin 0 (by decide)
        · rename_i hm
          simp only [c2, c3, c4, c5]
          have hl : m.log2 < 24 := (Nat.log2_lt hm).2 hb.1
          have hmax : max (e + (m.log2 : Int) - (52 : Nat)) (-1074) = e + (m.log2 : Int) - 52 := by omega
          rw [hmax]
          have hz : (e + (m.log2 : Int) - 52 - e).toNat = 0 := by omega
          have hs : (e - (e + (m.log2 : Int) - 52)).toNat = 52 - m.log2 := by omega
          rw [hz, hs]
          have hk : Ieee.Toward.even.cut s (m <<< (52 - m.log2)) 0 = m <<< (52 - m.log2) := by
            unfold Ieee.Toward.cut
            simp [Nat.mod_one]
          rw [hk]
          have hlt : m <<< (52 - m.log2) < 9007199254740992 := by
            rw [Nat.shiftLeft_eq]
            have h1 : m < 2 ^ (m.log2 + 1) := Nat.lt_log2_self
            have h2 : 2 ^ (m.log2 + 1) * 2 ^ (52 - m.log2) = 9007199254740992 := by
              rw [← Nat.pow_add]
              have : m.log2 + 1 + (52 - m.log2) = 53 := by omega
              rw [this]
            calc m * 2 ^ (52 - m.log2) < 2 ^ (m.log2 + 1) * 2 ^ (52 - m.log2) := Nat.mul_lt_mul_of_pos_right h1 (Nat.pow_pos (by decide))
              _ = _ := h2
          generalize m <<< (52 - m.log2) = q at hlt
          have hq : (e + (m.log2 : Int) - 52 - -1074).toNat ≤ 1149 := by omega
          generalize (e + (m.log2 : Int) - 52 - -1074).toNat = p at hq
          refine fin _ (Nat.lt_of_le_of_lt (Nat.min_le_left _ _) (Nat.lt_of_lt_of_le (Nat.add_lt_add_of_le_of_lt (Nat.mul_le_mul_right _ hq) hlt) (by decide)))
      dsimp only
      rw [hi]
      exact ⟨_, rfl⟩
def up (b : Nat) : Nat := (fF .f32 b .f64).getD 0
theorem lU (b : Nat) : fF .f32 b .f64 = some (up b) := by
  obtain ⟨y, h⟩ := aFM b
  unfold up
  rw [h]; rfl
def eqD (x y : Nat) : Bool := FloatKind.f64.format.order x y == some .eq
def gtD (x y : Nat) : Bool := FloatKind.f64.format.order x y == some .gt
def fE (n : Nat) (l : List V) : List V := Nat.rec (motive := fun _ => List V) l (fun _ r => .any :: r) n
abbrev mF (fn : Func) (k : Nat) : X → St → Option (V × H) := fun x st => match x with | .exit _ => none | _ => finish ty fn k st
abbrev yS {R : Type} (fns : Fns) (an : Ann) (N k : Nat) (c : Code) (K : X → St → Option R) : X → St → Option R := fun x st => match x with | .norm => exec ty fns an N k c st K | x => K x st
abbrev rF {R : Type} (id : Nat) (K : X → St → Option R) : X → St → Option R := fun x st => match x with
  | .exit j => match decide (j = id) with
    | true => K .norm st
    | false => K (.exit j) st
  | x => K x st
def cAt : List Bool → Code → Code
  | [], c => c
  | false :: p, .seq a _ => cAt p a
  | true :: p, .seq _ b => cAt p b
  | false :: p, .cond _ a _ => cAt p a
  | true :: p, .cond _ _ b => cAt p b
  | _ :: p, .block _ b => cAt p b
  | _ :: p, .loop b => cAt p b
  | _ :: p, .scope b => cAt p b
  | _, _ => .skip
def oD (p : List Bool) (fn : Func) : Code := match fn.body with | some c => cAt p c | none => .skip
theorem T.ite_inv {b : Bool} {x y : T} {v : V} {h' : H} (e : (T.ite b x y).run = some (v, h')) : (b = true ∧ x.run = some (v, h')) ∨ (b = false ∧ y.run = some (v, h')) := by
  cases b with
  | true => exact .inl ⟨rfl, e⟩
  | false => exact .inr ⟨rfl, e⟩
theorem T.pre_inv {b : Bool} {x : T} {v : V} {h' : H} (e : (T.ite b x .no).run = some (v, h')) : b = true ∧ x.run = some (v, h') := by
  rcases T.ite_inv e with h | ⟨_, h⟩
  · exact h
  · cases h
theorem T.ret_inv {a v : V} {g h' : H} (e : (T.ret a g).run = some (v, h')) : v = a ∧ h' = g := by cases e; exact ⟨rfl, rfl⟩
theorem T.no_inv {v : V} {h' : H} (e : T.no.run = some (v, h')) : False := by cases e
def agJ (x : Nat) : Bool := iH x && gtB x 0
def ltD (x y : Nat) : Bool := FloatKind.f64.format.order x y == some .lt
def gF1 (p : Nat → Bool) : G := fun vs h => match vs, h with | [.fl .f32 x], [] => some (.bool (p x), []) | _, _ => none
theorem aNQ (x : Nat) : (match !iH x with | true => true | false => ltB x 0 || eqB x 0) = !agJ x := by
  unfold agJ
  cases h : iH x with
  | false => rfl
  | true =>
    obtain ⟨o, ho⟩ := aNP h
    unfold ltB eqB gtB
    rw [ho]
    cases o <;> rfl
theorem aFN {n : Int} (h0 : 0 ≤ n) (h1 : n < 9223372036854775808) : IntKind.i64.wrap n = n := by
  simp only [IntKind.wrap, IntKind.signed, IntKind.bits]
  first | omega | (simp; omega)
theorem kP {n : Int} (h0 : -9223372036854775808 ≤ n) (h1 : n < 9223372036854775808) : IntKind.i64.wrap n = n := by
  simp only [IntKind.wrap, IntKind.signed, IntKind.bits]
  first | omega | (simp; omega)
theorem dlt {i n : Nat} (h : i < n) : decide ((i : Int) < (n : Int)) = true := by simp; omega
theorem dge {i n : Nat} (h : n ≤ i) : decide ((i : Int) < (n : Int)) = false := by simp; omega
theorem din {i n : Nat} (h : i < n) : decide (0 ≤ (i : Int) ∧ (i : Int) < ((n : Nat) : Int)) = true := by simp; omega
theorem ix {i : Nat} : 0 + ((i : Nat) : Int).toNat * 1 = i := by omega
theorem wr {i : Nat} (h : i < 2147483648) : IntKind.i64.wrap ((i : Int) + 1) = ((i + 1 : Nat) : Int) := by
  rw [aFN (by omega) (by omega)]; omega
theorem xM {α : Type} {l : List α} {i : Nat} {x : α} (h : l[i]? = some x) : i < l.length := (List.getElem?_eq_some_iff.1 h).1
def oI {α : Type} (t : α → Bool) : List α → Nat → Option Nat
  | [], _ => none
  | x :: l, i => match t x with
    | true => some i
    | false => oI t l (i + 1)
theorem scan {R α : Type} (l : List α) (t : α → Bool) (L : Nat → Int → Option R) (A : Nat → Option R) (Z : Option R)
    (hs : ∀ (M i : Nat) x, l[i]? = some x → L (M + 1) i = match t x with | true => A i | false => L M ((i + 1 : Nat) : Int))
    (he : ∀ M, L (M + 1) (l.length : Nat) = Z) :
    ∀ suf pre, l = pre ++ suf → ∀ M, L (suf.length + 1 + M) pre.length = match oI t suf pre.length with | some j => A j | none => Z := by
  intro suf
  induction suf with
  | nil =>
    intro pre hl M
    have hlen : pre.length = l.length := by rw [hl]; simp
    rw [show ([] : List α).length + 1 + M = M + 1 by simp; omega, hlen, he]
    rfl
  | cons x suf ih =>
    intro pre hl M
    rw [show (x :: suf).length + 1 + M = (suf.length + 1 + M) + 1 by simp; omega, hs _ _ x (by rw [hl]; simp)]
    unfold oI
    cases t x with
    | true => rfl
    | false =>
      have := ih (pre ++ [x]) (by rw [hl]; simp) M
      have e : pre.length + 1 = (pre ++ [x]).length := by simp
      rw [e]
      exact this
theorem anX {R α : Type} (l : List α) (t : α → Bool) (L : Nat → Int → Option R) (A : Nat → Option R) (Z : Option R)
    (hs : ∀ (M i : Nat) x, l[i]? = some x → L (M + 1) i = match t x with | true => A i | false => L M ((i + 1 : Nat) : Int))
    (he : ∀ M, L (M + 1) (l.length : Nat) = Z) : L (l.length + 1) 0 = match oI t l 0 with | some j => A j | none => Z := scan l t L A Z hs he l [] rfl 0
def adM {α : Type} (p : α → Bool) (l : List α) : Int := match oI p l 0 with | some j => (j : Int) | none => -1
theorem ag6 {α : Type} (p : α → Bool) : ∀ (l : List α) (i : Nat), (oI (fun x => !p x) l i).isNone = l.all p
  | [], i => rfl
  | x :: l, i => by
    unfold oI
    simp only [List.all_cons]
    cases p x with
    | true => simp only [Bool.not_true, Bool.true_and]; exact ag6 p l (i + 1)
    | false => simp
theorem aFO {α : Type} (p : α → Bool) (l : List α) : (!(decide (adM (fun x => !p x) l ≥ 0))) = l.all p := by
  rw [← ag6 p l 0]
  unfold adM
  cases oI (fun x => !p x) l 0 with
  | none => rfl
  | some j => simp
def rounds {σ : Type} (f : Nat → σ → σ) : Nat → Nat → σ → σ
  | 0, _, s => s
  | k + 1, i, s => rounds f k (i + 1) (f i s)
theorem aFP {R σ : Type} (n : Nat) (f : Nat → σ → σ) (L : Nat → Nat → σ → Option R) (Z : σ → Option R) (inv : Nat → σ → Prop)
    (hs : ∀ M i s, i < n → inv i s → L (M + 1) i s = L M (i + 1) (f i s) ∧ inv (i + 1) (f i s))
    (he : ∀ M s, inv n s → L (M + 1) n s = Z s) :
    ∀ k i s, i + k = n → inv i s → ∀ M, L (k + 1 + M) i s = Z (rounds f k i s) := by
  intro k
  induction k with
  | zero =>
    intro i s hi hv M
    have : i = n := by omega
    subst this
    rw [show 0 + 1 + M = M + 1 by omega]
    exact he M s hv
  | succ k ih =>
    intro i s hi hv M
    rw [show k + 1 + 1 + M = (k + 1 + M) + 1 by omega]
    obtain ⟨h1, h2⟩ := hs (k + 1 + M) i s (by omega) hv
    rw [h1]
    exact ih (i + 1) _ (by omega) h2 M
theorem OJ {α : Type} (g : Nat → α) : ∀ k i (l : List α), rounds (fun i l => l ++ [g i]) k i l = l ++ (List.range' i k).map g
  | 0, i, l => by simp [rounds]
  | k + 1, i, l => by
    show rounds _ k (i + 1) (l ++ [g i]) = _
    rw [OJ g k (i + 1)]
    simp [List.range'_succ]
def zH (rw : Bool) (n sz len e q bt : Nat) : Bool := rw && decide (n * sz = len ∧ e = sz) && xY q bt
theorem apc {i b : Nat} {α : Type} {l : List α} (h : l.length = i) (hi : i < 2147483648) (hb : b ≤ 16) : zH true i 1 l.length 1 (i + 1) b = true := by
  have h2 : (i + 1) * b ≤ 2147483648 * 16 := Nat.mul_le_mul (by omega) hb
  unfold zH
  rw [decide_eq_true (show i * 1 = l.length ∧ 1 = 1 from ⟨by omega, rfl⟩)]
  unfold xY
  rw [decide_eq_true (show i + 1 ≤ 9223372036854775807 ∧ (i + 1) * b ≤ 140737488355328 from ⟨by omega, by omega⟩)]
  rfl
theorem arN {k : FloatKind} {x : Nat} (h : isN k x = false) : k.format.order x x = some .eq := by
  unfold isN at h
  have h : (k.format.read x).isNaN = false := h
  unfold Ieee.Format.order
  revert h
  cases k.format.read x with
  | nan s f => intro h; exact Bool.noConfusion (show true = false from h)
  | infinity s => intro _; cases s <;> rfl
  | number s m e =>
    intro _
    unfold Ieee.Datum.order
    simp
theorem ajG {P : Program} {f : FuncId} {fn : Func} {e : Array Value → Sem Value} {g : GT} (hf : P.funcs[f]? = some fn) (hname : (fn.name == "runtime.NumGoroutine") = false) (hb : fn.body.isNone = true) (hn : Extern.findNext fn = none) (he : Extern.find fn = some e)
    (H : ∀ vs hp v h', (g vs hp).run = some (v, h') → hp = [] ∧ h' = [] ∧ ∀ (μ : Mu) cvs w, uX μ vs cvs → ∃ cv n, (e ⟨cvs⟩).run P w = .ok cv (w.drewN n) ∧ kK μ v cv) : FnT P f g := by
  intro vs hp v h' ee μ w cvs hr hv
  obtain ⟨rfl, rfl, hh⟩ := H vs hp v h' ee
  obtain ⟨cv, n, h1, h2⟩ := hh μ cvs w hv
  exact .inr ⟨cv, w.drewN n, by rw [run_callFunc_extern hf hname hb hn he, h1]; rfl, μ, Ev.drewN hr n, h2⟩
theorem ab8 {μ : Mu} {v : V} {cvs : List Value} (h : uX μ [v] cvs) : ∃ c, cvs = [c] ∧ kK μ v c := by
  cases cvs with
  | nil => exact h.elim
  | cons c cs =>
    cases cs with
    | nil => exact ⟨c, rfl, h.1⟩
    | cons _ _ => exact h.2.elim
def uY (x : Nat) : Nat := (FloatKind.f64.format.sqrt x).getD (rC .f64)
def adN : GT := fun vs h => match vs, h with | [.fl .f64 x], [] => .ret (.fl .f64 (uY x)) [] | _, _ => .no
theorem aaD (b : Nat) : uY (canon .f64 b) = canon .f64 (uY b) := by
  cases hb : isN .f64 b with
  | false =>
    rw [iV hb]
    unfold uY
    cases e : FloatKind.f64.format.sqrt b with
    | none => exact (rQ .f64).symm
    | some r =>
      unfold Ieee.Format.sqrt at e
      simp only [Option.map_eq_some_iff] at e
      obtain ⟨d, h1, rfl⟩ := e
      exact (iV (pV .f64 (agV h1).2)).symm
  | true =>
    have key : ∀ c, isN .f64 c = true → uY c = rC .f64 := by
      intro c hc
      unfold uY
      cases e : FloatKind.f64.format.sqrt c with
      | none => rfl
      | some r =>
        unfold Ieee.Format.sqrt at e
        simp only [Option.map_eq_some_iff] at e
        obtain ⟨d, h1, _⟩ := e
        have h2 : (FloatKind.f64.format.read c).isNaN = true := hc
        rw [(agV h1).1] at h2
        cases h2
    rw [key _ (by rw [qQ]; exact hb), key _ hb, rQ]
theorem aNR {P : Program} {f : FuncId} {fn : Func} (hf : P.funcs[f]? = some fn) (hname : (fn.name == "runtime.NumGoroutine") = false) (hb : fn.body.isNone = true) (hn : Extern.findNext fn = none) (he : Extern.find fn = some Extern.MathSqrt.sqrt) : FnT P f adN := by
  refine ajG hf hname hb hn he fun vs hp v h' e => ?_
  unfold adN at e
  split at e
  case h_2 => exact (T.no_inv e).elim
  obtain ⟨rfl, rfl⟩ := T.ret_inv e
  refine ⟨rfl, rfl, fun μ cvs w hv => ?_⟩
  obtain ⟨c, rfl, b, rfl, rfl⟩ := ab8 hv
  cases e : FloatKind.f64.format.sqrt b with
  | some r =>
    refine ⟨.float .f64 r, 0, by show ((match FloatKind.f64.format.sqrt b with | some r => pure (.float .f64 r) | none => do pure (.float .f64 (← choose (.nanBits .f64 b b)))) : Sem Value).run P w = _; rw [e]; rfl, r, rfl, ?_⟩
    rw [aaD]
    unfold uY
    rw [e]
    rfl
  | none =>
    refine ⟨.float .f64 ((Question.nanBits .f64 b b).cut (w.tape w.drawn (.nanBits .f64 b b))), 1, by show ((match FloatKind.f64.format.sqrt b with | some r => pure (.float .f64 r) | none => do pure (.float .f64 (← choose (.nanBits .f64 b b)))) : Sem Value).run P w = _; rw [e]; rfl, _, rfl, ?_⟩
    rw [aaD]
    have : uY b = rC .f64 := by unfold uY; rw [e]; rfl
    rw [this, rQ]
    exact oL (ab5 .f64 (.nanBits .f64 b b) (w.tape w.drawn (.nanBits .f64 b b)) (.inl ⟨b, b, rfl⟩))
def ag7 (k : FloatKind) (i : IntKind) : GT := fun vs h => match vs, h with | [.fl k' x], [] => if k' = k then .ite (!isN k x) (.ret (.int i x) []) .no else .no | _, _ => .no
def adO (k : FloatKind) (i : IntKind) : GT := fun vs h => match vs, h with | [.int i' n], [] => if i' = i then .ret (.fl k (canon k n.toNat)) [] else .no | _, _ => .no
theorem ag8 {P : Program} {f : FuncId} {fn : Func} (hf : P.funcs[f]? = some fn) (hname : (fn.name == "runtime.NumGoroutine") = false) (hb : fn.body.isNone = true) (hn : Extern.findNext fn = none) (he : Extern.find fn = some Extern.MathFloatBits.float64bits) : FnT P f (ag7 .f64 .u64) := by
  refine ajG hf hname hb hn he fun vs hp v h' e => ?_
  unfold ag7 at e
  split at e
  case h_2 => exact (T.no_inv e).elim
  split at e
  case isFalse => exact (T.no_inv e).elim
  rename_i hk
  subst hk
  obtain ⟨hx, e⟩ := T.pre_inv e
  obtain ⟨rfl, rfl⟩ := T.ret_inv e
  refine ⟨rfl, rfl, fun μ cvs w hv => ?_⟩
  obtain ⟨c, rfl, b, rfl, rfl⟩ := ab8 hv
  have hb : isN .f64 b = false := by rw [qQ] at hx; simpa using hx
  exact ⟨.int .u64 b, 0, rfl, by rw [iV hb]; rfl⟩
theorem ag9 {P : Program} {f : FuncId} {fn : Func} (hf : P.funcs[f]? = some fn) (hname : (fn.name == "runtime.NumGoroutine") = false) (hb : fn.body.isNone = true) (hn : Extern.findNext fn = none) (he : Extern.find fn = some Extern.MathFloatBits.float64frombits) : FnT P f (adO .f64 .u64) := by
  refine ajG hf hname hb hn he fun vs hp v h' e => ?_
  unfold adO at e
  split at e
  case h_2 => exact (T.no_inv e).elim
  split at e
  case isFalse => exact (T.no_inv e).elim
  rename_i hk
  subst hk
  obtain ⟨rfl, rfl⟩ := T.ret_inv e
  refine ⟨rfl, rfl, fun μ cvs w hv => ?_⟩
  obtain ⟨c, rfl, hc⟩ := ab8 hv
  cases hc
  exact ⟨_, 0, rfl, _, rfl, rfl⟩
theorem ajH (neg : Bool) (n drop : Nat) : Ieee.Toward.even.cut neg n drop ≤ n / 2 ^ drop + 1 := by
  unfold Ieee.Toward.cut
  simp only [Nat.one_shiftLeft]
  have hm : ∀ b : Bool, b.toNat ≤ 1 := fun b => by cases b <;> decide
  by_cases h : drop ≤ n.log2 + 2
  · rw [Nat.min_eq_left h]
    exact Nat.add_le_add_left (hm _) _
  · rw [Nat.min_eq_right (by omega)]
    have h1 : n < 2 ^ (n.log2 + 1) := Nat.lt_log2_self
    have h2 : 2 ^ (n.log2 + 1) ≤ 2 ^ (n.log2 + 2) := Nat.pow_le_pow_right (by decide) (by omega)
    rw [Nat.div_eq_of_lt (Nat.lt_of_lt_of_le h1 h2)]
    exact Nat.add_le_add (Nat.zero_le _) (hm _)
theorem uH (neg : Bool) (n : Nat) : Ieee.Toward.even.cut neg n 0 = n := by
  unfold Ieee.Toward.cut
  simp [Nat.mod_one]
theorem AV (f : Ieee.Format) (neg : Bool) (m : Nat) (p B : Int) (hB : f.leastPlace + f.fractionBits ≤ B) (h : m = 0 ∨ p + (m.log2 : Int) < B) :
    ∃ r, f.nearest neg m p = f.word neg r ∧ r ≤ (B - f.leastPlace - f.fractionBits + 1).toNat * f.binade := by
  unfold Ieee.Format.nearest
  by_cases hm : m = 0
  · rw [if_pos hm]
    exact ⟨0, rfl, Nat.zero_le _⟩
  rw [if_neg hm]
  have h : p + (m.log2 : Int) < B := h.resolve_left hm
  refine ⟨_, rfl, Nat.le_trans (Nat.min_le_left _ _) ?_⟩
  have hb : f.binade = 2 ^ f.fractionBits := rfl
  generalize f.leastPlace = least at *
  generalize f.fractionBits = frac at *
  rw [hb]
  generalize hL : m.log2 = L at *
  have hmL : m < 2 ^ (L + 1) := by rw [← hL]; exact Nat.lt_log2_self
  by_cases hc : least ≤ p + L - frac
  · rw [Int.max_eq_left hc]
    have key : Ieee.Toward.even.cut neg (m <<< (p - (p + L - frac)).toNat) ((p + L - frac) - p).toNat ≤ 2 * 2 ^ frac := by
      by_cases hp : L ≤ frac
      · rw [show ((p + L - frac) - p).toNat = 0 by omega, uH, Nat.shiftLeft_eq, show (p - (p + L - frac)).toNat = frac - L by omega]
        have : m * 2 ^ (frac - L) ≤ 2 ^ (L + 1) * 2 ^ (frac - L) := Nat.mul_le_mul_right _ (Nat.le_of_lt hmL)
        rw [← Nat.pow_add, show L + 1 + (frac - L) = frac + 1 by omega, Nat.pow_succ] at this
        omega
      · rw [show (p - (p + L - frac)).toNat = 0 by omega, show ((p + L - frac) - p).toNat = L - frac by omega]
        refine Nat.le_trans (ajH _ _ _) ?_
        have : (m <<< 0) / 2 ^ (L - frac) < 2 * 2 ^ frac := by
          rw [Nat.shiftLeft_zero, Nat.div_lt_iff_lt_mul (Nat.pow_pos (by decide))]
          rw [show 2 * 2 ^ frac = 2 ^ (frac + 1) by rw [Nat.pow_succ]; omega, ← Nat.pow_add, show frac + 1 + (L - frac) = L + 1 by omega]
          exact hmL
        omega
    have e : (B - least - frac + 1).toNat = (p + L - frac - least).toNat + 2 + (B - 1 - (p + L)).toNat := by omega
    rw [e, Nat.add_mul, Nat.add_mul]
    refine Nat.le_trans (Nat.add_le_add_left key _) (Nat.le_add_right _ _)
  · rw [Int.max_eq_right (by omega)]
    have key : Ieee.Toward.even.cut neg (m <<< (p - least).toNat) (least - p).toNat ≤ 2 ^ frac := by
      by_cases hp : least ≤ p
      · rw [show (least - p).toNat = 0 by omega, uH, Nat.shiftLeft_eq]
        have : m * 2 ^ (p - least).toNat ≤ 2 ^ (L + 1) * 2 ^ (p - least).toNat := Nat.mul_le_mul_right _ (Nat.le_of_lt hmL)
        rw [← Nat.pow_add] at this
        exact Nat.le_trans this (Nat.pow_le_pow_right (by decide) (by omega))
      · rw [show (p - least).toNat = 0 by omega]
        refine Nat.le_trans (ajH _ _ _) ?_
        have : (m <<< 0) / 2 ^ (least - p).toNat < 2 ^ frac := by
          rw [Nat.shiftLeft_zero, Nat.div_lt_iff_lt_mul (Nat.pow_pos (by decide)), ← Nat.pow_add]
          exact Nat.lt_of_lt_of_le hmL (Nat.pow_le_pow_right (by decide) (by omega))
        omega
    rw [show (least - least).toNat = 0 by omega, Nat.zero_mul, Nat.zero_add]
    refine Nat.le_trans key ?_
    have : 1 * 2 ^ frac ≤ (B - least - frac + 1).toNat * 2 ^ frac := Nat.mul_le_mul_right _ (by omega)
    omega
theorem YZ (neg : Bool) (r K : Nat) (hr : r ≤ K * 4503599627370496) (hK : K < 2047) :
    ∃ m e, Ieee.double.read (Ieee.double.word neg r) = .number neg m e ∧ (m = 0 ∨ e + (m.log2 : Int) ≤ (K : Int) - 1023) ∧ m < 9007199254740992 ∧ -1074 ≤ e := by
  unfold Ieee.Format.read Ieee.Format.word
  have c1 : Ieee.double.signWeight = 9223372036854775808 := by decide
  have c2 : Ieee.double.binade = 4503599627370496 := by decide
  have c3 : Ieee.double.infRung = 9218868437227405312 := by decide
  have c4 : Ieee.double.leastPlace = -1074 := by decide
  simp only [c1, c2, c3, c4]
  have hm : (if neg = true then 9223372036854775808 + r else r) % 9223372036854775808 = r := by split <;> omega
  have hs : ((if neg = true then 9223372036854775808 + r else r) / 9223372036854775808 % 2 == 1) = neg := by
    cases neg
    · rw [if_neg (by decide), Nat.div_eq_of_lt (by omega)]; rfl
    · rw [if_pos rfl, Nat.add_div_left _ (by decide), Nat.div_eq_of_lt (by omega)]; rfl
  rw [hm, hs]
  split
  · rename_i h1
    refine ⟨_, _, rfl, ?_, by omega, by omega⟩
    by_cases h0 : r = 0
    · exact .inl h0
    · right
      have := (Nat.log2_lt h0).2 (show r < 2 ^ 52 by omega)
      omega
  · rename_i h1
    rw [if_pos (by omega)]
    refine ⟨_, _, rfl, .inr ?_, by omega, by omega⟩
    have h2 := (Nat.log2_lt (show 4503599627370496 + r % 4503599627370496 ≠ 0 by omega)).2 (show 4503599627370496 + r % 4503599627370496 < 2 ^ 53 by omega)
    have h3 : r / 4503599627370496 ≤ K := by
      rw [Nat.div_le_iff_le_mul (by decide)]
      omega
    have h4 : 1 ≤ r / 4503599627370496 := by
      rw [Nat.le_div_iff_mul_le (by decide)]
      omega
    omega
theorem JF {y : Nat} {s : Bool} {m : Nat} {e : Int} (hd : FloatKind.f64.decode y = .number s m e) (h : m = 0 ∨ e + (m.log2 : Int) < 127) : ∃ r, fF .f64 y .f32 = some r := by
  unfold fF
  rw [if_neg (by decide), hd]
  rw [if_neg (show ¬ ((Ieee.Datum.number s m e).isNaN = true) from fun h => by cases h)]
  unfold floatToFloatBits
  rw [if_neg (by decide), hd]
  dsimp only
  have hn : (FloatKind.f32.decode (FloatKind.f32.encode (.number s m e))).isInfinity = false := by
    show (Ieee.single.read (Ieee.single.nearest s m e)).isInfinity = false
    obtain ⟨r, h1, h2⟩ := AV Ieee.single s m e 127 (by decide) h
    rw [h1]
    have h2 : r ≤ 254 * 8388608 := h2
    unfold Ieee.Format.read Ieee.Format.word
    have c1 : Ieee.single.signWeight = 2147483648 := by decide
    have c2 : Ieee.single.binade = 8388608 := by decide
    have c3 : Ieee.single.infRung = 2139095040 := by decide
    simp only [c1, c2, c3]
    have hm : (if s = true then 2147483648 + r else r) % 2147483648 = r := by split <;> omega
    rw [hm]
    split
    · rfl
    · rw [if_pos (by omega)]; rfl
  rw [hn]
  exact ⟨_, rfl⟩
theorem JG (n : Nat) : ∀ todo root, root * root ≤ n → Ieee.Datum.rootFrom n todo root * Ieee.Datum.rootFrom n todo root ≤ n
  | 0, root, h => h
  | todo + 1, root, h => by
    unfold Ieee.Datum.rootFrom
    dsimp only
    split
    · rename_i h1; exact JG n todo _ h1
    · exact JG n todo _ h
theorem aFQ {x : Nat} (h : isN .f32 x = false) : (∃ s, FloatKind.f64.decode (up x) = .infinity s) ∨ ∃ s m e, FloatKind.f64.decode (up x) = .number s m e ∧ (m = 0 ∨ e + (m.log2 : Int) ≤ 128) := by
  have hx := lU x
  unfold fF at hx
  rw [if_neg (by decide)] at hx
  unfold isN at h
  rw [if_neg (by rw [h]; decide)] at hx
  unfold floatToFloatBits at hx
  rw [if_neg (by decide)] at hx
  cases hd : FloatKind.f32.decode x with
  | nan s f => rw [hd] at h; cases h
  | infinity s =>
    rw [hd] at hx
    simp only [Option.some.injEq] at hx
    left
    rw [← hx]
    cases s
    · exact ⟨false, by decide⟩
    · exact ⟨true, by decide⟩
  | number s m e =>
    rw [hd] at hx
    simp only at hx
    split at hx
    · cases hx
    · simp only [Option.some.injEq] at hx
      right
      have hb : m < 2 ^ 24 ∧ e ≤ 104 := by
        have hd' : Ieee.single.read x = .number s m e := hd
        unfold Ieee.Format.read at hd'
        have c1 : Ieee.single.signWeight = 2147483648 := by decide
        have c2 : Ieee.single.binade = 8388608 := by decide
        have c3 : Ieee.single.infRung = 2139095040 := by decide
        have c4 : Ieee.single.leastPlace = -149 := by decide
        simp only [c1, c2, c3, c4] at hd'
        split at hd'
        · simp only [Ieee.Datum.number.injEq] at hd'; omega
        · split at hd'
          · simp only [Ieee.Datum.number.injEq] at hd'; omega
          · split at hd' <;> cases hd'
      have hl : m = 0 ∨ e + (m.log2 : Int) < 128 := by
        by_cases h0 : m = 0
        · exact .inl h0
        · have := (Nat.log2_lt h0).2 hb.1
          omega
      obtain ⟨r, h1, h2⟩ := AV Ieee.double s m e 128 (by decide) hl
      have h2 : r ≤ 1151 * 4503599627370496 := h2
      obtain ⟨m', e', h3, h4, _⟩ := YZ s r 1151 h2 (by decide)
      refine ⟨s, m', e', ?_, by omega⟩
      rw [← hx]
      show Ieee.double.read (Ieee.double.nearest s m e) = _
      rw [h1, h3]
theorem aUY {w n : Nat} (hw : w ≠ 0) (h : w * w ≤ n) : 2 * w.log2 ≤ n.log2 := by
  have hn : n ≠ 0 := by
    intro h0
    subst h0
    have : 0 < w * w := Nat.mul_pos (by omega) (by omega)
    omega
  have h1 : 2 ^ w.log2 ≤ w := Nat.log2_self_le hw
  rw [Nat.le_log2 hn]
  rw [show 2 * w.log2 = w.log2 + w.log2 by omega, Nat.pow_add]
  exact Nat.le_trans (Nat.mul_le_mul h1 h1) h
theorem aNS {w b : Nat} (hw : w ≠ 0) (hb : b ≤ 1) : (2 * w + b).log2 = w.log2 + 1 := by
  have h1 : 2 ^ w.log2 ≤ w := Nat.log2_self_le hw
  have h2 : w < 2 ^ (w.log2 + 1) := Nat.lt_log2_self
  rw [Nat.log2_eq_iff (by omega)]
  rw [Nat.pow_succ, Nat.pow_succ] at *
  omega
theorem awX {m k : Nat} (hm : m ≠ 0) : (m <<< k).log2 = m.log2 + k := by
  have h1 : 2 ^ m.log2 ≤ m := Nat.log2_self_le hm
  have h2 : m < 2 ^ (m.log2 + 1) := Nat.lt_log2_self
  have h3 : 0 < 2 ^ k := Nat.pow_pos (by decide)
  rw [Nat.shiftLeft_eq, Nat.log2_eq_iff (Nat.ne_of_gt (Nat.mul_pos (by omega) h3))]
  rw [Nat.pow_add, show m.log2 + k + 1 = (m.log2 + 1) + k by omega, Nat.pow_add]
  exact ⟨Nat.mul_le_mul_right _ h1, Nat.mul_lt_mul_of_pos_right h2 h3⟩
theorem arO (x : Nat) : ∃ r, fF .f64 (uY (up x)) .f32 = some r := by
  cases hx : isN .f32 x with
  | true =>
    have hu : up x = rC .f64 := by
      have h := lU x
      unfold fF at h
      unfold isN at hx
      rw [if_neg (by decide), if_pos hx] at h
      exact (Option.some.inj h).symm
    rw [hu]
    exact Option.isSome_iff_exists.1 (by decide +kernel)
  | false =>
    rcases aFQ hx with ⟨s, hd⟩ | ⟨s, m, e, hd, hb⟩
    · have hd' : Ieee.double.read (up x) = .infinity s := hd
      unfold uY
      show ∃ r, fF .f64 ((Ieee.double.sqrt (up x)).getD _) .f32 = some r
      unfold Ieee.Format.sqrt
      rw [hd']
      cases s
      · exact Option.isSome_iff_exists.1 (by decide +kernel)
      · exact Option.isSome_iff_exists.1 (by decide +kernel)
    · have hd' : Ieee.double.read (up x) = .number s m e := hd
      have hs : FloatKind.f64.format.sqrt (up x) = ((Ieee.Datum.number s m e).root 54).map Ieee.double.write := by
        show Ieee.double.sqrt (up x) = _
        unfold Ieee.Format.sqrt
        rw [hd']
        rfl
      unfold uY
      rw [hs]
      unfold Ieee.Datum.root
      dsimp only
      by_cases h0 : m = 0
      · rw [if_pos h0]
        subst h0
        have hz : Ieee.double.write (.number s 0 e) = Ieee.double.word s 0 := by
          show Ieee.double.nearest s 0 e = _
          unfold Ieee.Format.nearest
          rw [if_pos rfl]
        show ∃ r, fF .f64 (Ieee.double.write (.number s 0 e)) .f32 = some r
        rw [hz]
        cases s
        · exact Option.isSome_iff_exists.1 (by decide +kernel)
        · exact Option.isSome_iff_exists.1 (by decide +kernel)
      · rw [if_neg h0]
        cases s with
        | true =>
          rw [if_pos rfl]
          exact Option.isSome_iff_exists.1 (by decide +kernel)
        | false =>
          rw [if_neg (by decide)]
          have hb : e + (m.log2 : Int) ≤ 128 := hb.resolve_left h0
          generalize hmore : (2 * 54 - m.log2 + ((e - ((2 * 54 - m.log2 : Nat) : Int)) % 2).toNat : Nat) = more
          have heven : (e - (more : Int)) % 2 = 0 := by omega
          generalize hw : Ieee.Datum.rootFrom (m <<< more) ((m <<< more).log2 / 2 + 1) 0 = w
          have hsq : w * w ≤ m <<< more := by rw [← hw]; exact JG _ _ _ (by simp)
          generalize hodd : (w * w != m <<< more).toNat = b
          have hb1 : b ≤ 1 := by rw [← hodd]; cases (w * w != m <<< more) <;> decide
          show ∃ r, fF .f64 (Ieee.double.nearest false (2 * w + b) ((e - (more : Int)) / 2 - 1)) .f32 = some r
          have hval : (2 * w + b) = 0 ∨ ((e - (more : Int)) / 2 - 1) + ((2 * w + b).log2 : Int) < 66 := by
            by_cases hw0 : w = 0
            · subst hw0
              by_cases hb0 : b = 0
              · left; omega
              · right
                have : b = 1 := by omega
                subst this
                have : (2 * 0 + 1).log2 = 0 := by decide
                omega
            · right
              rw [aNS hw0 hb1]
              have h1 := aUY hw0 hsq
              rw [awX h0] at h1
              omega
          obtain ⟨r, h1, h2⟩ := AV Ieee.double false _ _ 66 (by decide) hval
          rw [h1]
          have h2 : r ≤ 1089 * 4503599627370496 := h2
          obtain ⟨m', e', h3, h4, _⟩ := YZ false r 1089 h2 (by decide)
          exact JF (s := false) (m := m') (e := e') h3 (by omega)
def JH (x : Nat) : Nat := (fF .f64 (uY (up x)) .f32).getD 0
theorem aFR (x : Nat) : fF .f64 (uY (up x)) .f32 = some (JH x) := by
  obtain ⟨r, h⟩ := arO x
  unfold JH
  rw [h]; rfl
def Num (k : FloatKind) (x : Nat) : Prop := ∃ s m e, k.format.read x = .number s m e
theorem arP {x : Nat} (h : iH x = true) : Num .f32 x := by
  cases hr : FloatKind.f32.format.read x with
  | number s m e => exact ⟨s, m, e, hr⟩
  | nan s f => exact (ag5 h (show (FloatKind.f32.format.read x).isNaN = true by rw [hr]; rfl)).elim
  | infinity s =>
    exfalso
    unfold iH at h
    have h1 : fop .sub .f32 x x = rC .f32 := by
      unfold fop floatBits
      show ((FloatKind.f32.format.sub x x)).getD _ = _
      unfold Ieee.Format.sub
      rw [hr]
      cases s <;> rfl
    rw [h1, pW (Or.inl (zS _))] at h
    exact absurd h (by decide)
def LE1 (m : Nat) (p : Int) : Prop := m = 0 ∨ p ≤ 0 ∧ m ≤ 2 ^ (-p).toNat
theorem LE1.log {m : Nat} {p : Int} (h : LE1 m p) : m = 0 ∨ p + (m.log2 : Int) < 0 ∨ (p + (m.log2 : Int) = 0 ∧ m = 2 ^ m.log2) := by
  rcases h with h | ⟨h1, h2⟩
  · exact .inl h
  by_cases hm : m = 0
  · exact .inl hm
  right
  have h3 : 2 ^ m.log2 ≤ m := Nat.log2_self_le hm
  have h4 : m.log2 ≤ (-p).toNat := (Nat.pow_le_pow_iff_right (by decide)).1 (Nat.le_trans h3 h2)
  by_cases h5 : m.log2 = (-p).toNat
  · right
    refine ⟨by omega, ?_⟩
    rw [← h5] at h2
    omega
  · left
    omega
theorem awY (neg : Bool) {m : Nat} {p : Int} (h : LE1 m p) : ∃ r, Ieee.double.nearest neg m p = Ieee.double.word neg r ∧ r ≤ 1023 * 4503599627370496 := by
  rcases h.log with h | h | ⟨h1, h2⟩
  · exact AV Ieee.double neg m p 0 (by decide) (.inl h)
  · exact AV Ieee.double neg m p 0 (by decide) (.inr h)
  · unfold Ieee.Format.nearest
    by_cases hm : m = 0
    · exact AV Ieee.double neg m p 0 (by decide) (.inl hm)
    rw [if_neg hm]
    refine ⟨_, rfl, Nat.le_trans (Nat.min_le_left _ _) ?_⟩
    have c2 : Ieee.double.binade = 4503599627370496 := by decide
    have c4 : Ieee.double.leastPlace = -1074 := by decide
    have c5 : Ieee.double.fractionBits = 52 := by decide
    rw [c2, c4, c5]
    generalize hL : m.log2 = L at *
    have hmax : max (p + (L : Int) - (52 : Nat)) (-1074) = -52 := by omega
    rw [hmax, show ((-52 : Int) - (-1074)).toNat = 1022 by decide]
    have key : Ieee.Toward.even.cut neg (m <<< (p - (-52)).toNat) ((-52) - p).toNat ≤ 4503599627370496 := by
      by_cases hp : L ≤ 52
      · rw [show ((-52 : Int) - p).toNat = 0 by omega, uH, Nat.shiftLeft_eq, h2, ← Nat.pow_add, show L + (p - (-52)).toNat = 52 by omega]
        decide
      · rw [show (p - (-52)).toNat = 0 by omega, Nat.shiftLeft_zero]
        have hd : ((-52 : Int) - p).toNat = L - 52 := by omega
        rw [hd, h2]
        unfold Ieee.Toward.cut
        have hlog : (2 ^ L).log2 = L := Nat.log2_two_pow
        rw [hlog, Nat.min_eq_left (by omega), Nat.one_shiftLeft]
        have hdiv : 2 ^ L / 2 ^ (L - 52) = 4503599627370496 := by
          rw [Nat.pow_div (by omega) (by decide), show L - (L - 52) = 52 by omega]
        have hmod : 2 ^ L % 2 ^ (L - 52) = 0 := Nat.mod_eq_zero_of_dvd (Nat.pow_dvd_pow 2 (by omega))
        dsimp only
        rw [hdiv, hmod]
        have hpos : 0 < 2 ^ (L - 52) := Nat.pow_pos (by decide)
        have e1 : decide (2 ^ (L - 52) < 2 * 0) = false := decide_eq_false (by omega)
        have e2 : (2 ^ (L - 52) == 2 * 0) = false := by simp
        simp [e1, e2]
    omega
theorem anY (neg : Bool) {r : Nat} (hr : r ≤ 1023 * 4503599627370496) : ∃ m e, Ieee.double.read (Ieee.double.word neg r) = .number neg m e ∧ LE1 m e ∧ (r = 0 → m = 0) ∧ -1074 ≤ e := by
  unfold Ieee.Format.read Ieee.Format.word
  have c1 : Ieee.double.signWeight = 9223372036854775808 := by decide
  have c2 : Ieee.double.binade = 4503599627370496 := by decide
  have c3 : Ieee.double.infRung = 9218868437227405312 := by decide
  have c4 : Ieee.double.leastPlace = -1074 := by decide
  simp only [c1, c2, c3, c4]
  have hm : (if neg = true then 9223372036854775808 + r else r) % 9223372036854775808 = r := by split <;> omega
  have hs : ((if neg = true then 9223372036854775808 + r else r) / 9223372036854775808 % 2 == 1) = neg := by
    cases neg
    · rw [if_neg (by decide), Nat.div_eq_of_lt (by omega)]; rfl
    · rw [if_pos rfl, Nat.add_div_left _ (by decide), Nat.div_eq_of_lt (by omega)]; rfl
  rw [hm, hs]
  split
  · rename_i h1
    refine ⟨_, _, rfl, .inr ⟨by decide, ?_⟩, fun h => h, by decide⟩
    exact Nat.le_trans (Nat.le_of_lt h1) (by rw [show (4503599627370496 : Nat) = 2 ^ 52 by decide]; exact Nat.pow_le_pow_right (by decide) (by decide))
  · rename_i h1
    rw [if_pos (by omega)]
    refine ⟨_, _, rfl, .inr ⟨by omega, ?_⟩, fun h => by omega, by omega⟩
    by_cases hq : r / 4503599627370496 = 1023
    · have hmod : r % 4503599627370496 = 0 := by omega
      rw [hq, hmod]
      decide
    · have h2 : r % 4503599627370496 < 4503599627370496 := Nat.mod_lt _ (by decide)
      have h3 : 53 ≤ (-(-1074 + ((r / 4503599627370496 - 1 : Nat) : Int))).toNat := by omega
      refine Nat.le_trans (show 4503599627370496 + r % 4503599627370496 ≤ 2 ^ 53 by omega) (Nat.pow_le_pow_right (by decide) h3)
def PU (y : Nat) : Prop := ∃ m e, Ieee.double.read y = .number false m e ∧ LE1 m e
def NU (y : Nat) : Prop := ∃ s m e, Ieee.double.read y = .number s m e ∧ LE1 m e ∧ (s = true ∨ m = 0) ∧ -1074 ≤ e
theorem LE1.mul {m n : Nat} {i j : Int} (h : LE1 m i) (k : LE1 n j) : LE1 (m * n) (i + j) := by
  rcases h with rfl | ⟨h1, h2⟩
  · exact .inl (by simp)
  rcases k with rfl | ⟨k1, k2⟩
  · exact .inl (by simp)
  right
  refine ⟨by omega, ?_⟩
  rw [show (-(i + j)).toNat = (-i).toNat + (-j).toNat by omega, Nat.pow_add]
  exact Nat.mul_le_mul h2 k2
theorem ajI {x y : Nat} {s t : Bool} {m n : Nat} {i j : Int} (hx : Ieee.double.read x = .number s m i) (hy : Ieee.double.read y = .number t n j) : fop .mul .f64 x y = Ieee.double.nearest (s ^^ t) (m * n) (i + j) := by
  unfold fop floatBits
  show (Ieee.double.mul x y).getD _ = _
  unfold Ieee.Format.mul
  rw [hx, hy]
  rfl
theorem PU.mul {x y : Nat} (hx : PU x) (hy : PU y) : PU (fop .mul .f64 x y) := by
  obtain ⟨m, i, h1, h2⟩ := hx
  obtain ⟨n, j, k1, k2⟩ := hy
  rw [ajI h1 k1]
  obtain ⟨r, h3, h4⟩ := awY (false ^^ false) (h2.mul k2)
  rw [h3]
  obtain ⟨m', e', h5, h6, _⟩ := anY (false ^^ false) h4
  exact ⟨m', e', h5, h6⟩
theorem awZ {s : Bool} {m : Nat} {p : Int} (h : LE1 m p) (hs : s = true ∨ m = 0) : NU (Ieee.double.nearest s m p) := by
  by_cases hm : m = 0
  · subst hm
    have hz : Ieee.double.nearest s 0 p = Ieee.double.word s 0 := by unfold Ieee.Format.nearest; rw [if_pos rfl]
    rw [hz]
    obtain ⟨m', e', h5, h6, h7, h8⟩ := anY s (show 0 ≤ 1023 * 4503599627370496 by decide)
    exact ⟨s, m', e', h5, h6, .inr (h7 rfl), h8⟩
  · obtain ⟨r, h3, h4⟩ := awY s h
    rw [h3]
    obtain ⟨m', e', h5, h6, _, h8⟩ := anY s h4
    exact ⟨s, m', e', h5, h6, .inl (hs.resolve_right hm), h8⟩
theorem NU.mul {x y : Nat} (hx : NU x) (hy : PU y) : NU (fop .mul .f64 x y) := by
  obtain ⟨s, m, i, h1, h2, h3, _⟩ := hx
  obtain ⟨n, j, k1, k2⟩ := hy
  rw [ajI h1 k1]
  refine awZ (h2.mul k2) ?_
  rcases h3 with rfl | rfl
  · exact .inl rfl
  · exact .inr (by simp)
theorem aUZ (D n E : Nat) (hn : 0 < n) (h : D ≤ n * 2 ^ E) : 2 * (D / n) + (D % n != 0).toNat ≤ 2 ^ (E + 1) := by
  rw [Nat.pow_succ]
  by_cases hr : D % n = 0
  · rw [hr]
    have : D / n ≤ 2 ^ E := by
      rw [Nat.div_le_iff_le_mul hn]
      rw [Nat.mul_comm] at h
      omega
    simp
    omega
  · have hlt : D < n * 2 ^ E := by
      refine Nat.lt_of_le_of_ne h fun he => hr ?_
      rw [he]
      exact Nat.mul_mod_right _ _
    have : D / n < 2 ^ E := by rw [Nat.div_lt_iff_lt_mul hn, Nat.mul_comm]; exact hlt
    have hb : (D % n != 0).toNat ≤ 1 := by cases (D % n != 0) <;> decide
    omega
theorem NU.quo {x y : Nat} {s : Bool} {m n : Nat} {i j : Int} (hx : Ieee.double.read x = .number s m i) (hy : Ieee.double.read y = .number false n j) (hn : 0 < n) (hs : s = true ∨ m = 0)
    (h : ∃ a b : Nat, m * 2 ^ a ≤ n * 2 ^ b ∧ (a : Int) - i = (b : Int) - j) : NU (fop .quo .f64 x y) := by
  obtain ⟨a, b, h1, h2⟩ := h
  have e : fop .quo .f64 x y = Ieee.double.nearest (s ^^ false) (2 * ((m <<< (54 + n.log2 - m.log2)) / n) + ((m <<< (54 + n.log2 - m.log2)) % n != 0).toNat) (i - j - ((54 + n.log2 - m.log2 : Nat) : Int) - 1) := by
    unfold fop floatBits
    show (Ieee.double.div x y).getD _ = _
    unfold Ieee.Format.div
    rw [hx, hy]
    unfold Ieee.Datum.quotient
    dsimp only
    rw [if_neg (by omega)]
    rfl
  rw [e]
  by_cases hm : m = 0
  · subst hm
    have : 2 * ((0 <<< (54 + n.log2 - (0 : Nat).log2)) / n) + ((0 <<< (54 + n.log2 - (0 : Nat).log2)) % n != 0).toNat = 0 := by simp
    rw [this]
    exact awZ (.inl rfl) (.inr rfl)
  have hs : s = true := hs.resolve_right hm
  subst hs
  generalize hmore : 54 + n.log2 - m.log2 = more
  have hE : 0 ≤ (more : Int) + j - i := by
    have h3 : 2 ^ m.log2 ≤ m := Nat.log2_self_le hm
    have h4 : n < 2 ^ (n.log2 + 1) := Nat.lt_log2_self
    have h5 : 2 ^ (m.log2 + a) < 2 ^ (n.log2 + 1 + b) := by
      rw [Nat.pow_add, Nat.pow_add]
      exact Nat.lt_of_le_of_lt (Nat.mul_le_mul_right _ h3) (Nat.lt_of_le_of_lt h1 (Nat.mul_lt_mul_of_pos_right h4 (Nat.pow_pos (by decide))))
    have h6 := (Nat.pow_lt_pow_iff_right (by decide)).1 h5
    omega
  have hD : m <<< more ≤ n * 2 ^ ((more : Int) + j - i).toNat := by
    rw [Nat.shiftLeft_eq]
    have hp : 0 < 2 ^ a := Nat.pow_pos (by decide)
    refine Nat.le_of_mul_le_mul_right (?_ : m * 2 ^ more * 2 ^ a ≤ n * 2 ^ ((more : Int) + j - i).toNat * 2 ^ a) hp
    calc m * 2 ^ more * 2 ^ a = m * 2 ^ a * 2 ^ more := by rw [Nat.mul_right_comm]
      _ ≤ n * 2 ^ b * 2 ^ more := Nat.mul_le_mul_right _ h1
      _ = n * (2 ^ (b + more)) := by rw [Nat.mul_assoc, Nat.pow_add]
      _ = n * (2 ^ (((more : Int) + j - i).toNat + a)) := by rw [show b + more = ((more : Int) + j - i).toNat + a by omega]
      _ = n * 2 ^ ((more : Int) + j - i).toNat * 2 ^ a := by rw [Nat.pow_add, Nat.mul_assoc]
  refine awZ (.inr ⟨by omega, ?_⟩) (.inl rfl)
  rw [show (-(i - j - (more : Int) - 1)).toNat = ((more : Int) + j - i).toNat + 1 by omega]
  exact aUZ _ _ _ hn hD
theorem NU.one {x : Nat} (hx : NU x) : PU (fop .add .f64 4607182418800017408 x) := by
  obtain ⟨s, n, j, h1, h2, h3, hj⟩ := hx
  have hone : Ieee.double.read 4607182418800017408 = .number false 4503599627370496 (-52) := by decide +kernel
  have e : fop .add .f64 4607182418800017408 x = ((((Ieee.Datum.number false 4503599627370496 (-52)).sum (.number s n j))).map Ieee.double.write).getD (rC .f64) := by
    unfold fop floatBits
    show (Ieee.double.add 4607182418800017408 x).getD _ = _
    unfold Ieee.Format.add
    rw [hone, h1]
  rw [e]
  unfold Ieee.Datum.sum
  dsimp only
  generalize hb : min (-52 : Int) j = base
  have hbase : base ≤ -52 := by omega
  have t1 : Ieee.signed false 4503599627370496 (-52 - base).toNat = ((2 ^ (-base).toNat : Nat) : Int) := by
    unfold Ieee.signed
    rw [if_neg (by decide), Nat.shiftLeft_eq, show (4503599627370496 : Nat) = 2 ^ 52 by decide, ← Nat.pow_add, show 52 + (-52 - base).toNat = (-base).toNat by omega]
  have t2 : ∃ c : Nat, Ieee.signed s n (j - base).toNat = -(c : Int) ∧ c ≤ 2 ^ (-base).toNat := by
    rcases h2 with rfl | ⟨k1, k2⟩
    · exact ⟨0, by unfold Ieee.signed; cases s <;> simp, Nat.zero_le _⟩
    · rcases h3 with rfl | rfl
      · refine ⟨n <<< (j - base).toNat, by unfold Ieee.signed; rw [if_pos rfl], ?_⟩
        rw [Nat.shiftLeft_eq, show (-base).toNat = (-j).toNat + (j - base).toNat by omega, Nat.pow_add]
        exact Nat.mul_le_mul_right _ k2
      · exact ⟨0, by unfold Ieee.signed; cases s <;> simp, Nat.zero_le _⟩
  obtain ⟨c, t2, t3⟩ := t2
  rw [t1, t2]
  generalize hT : 2 ^ (-base).toNat = T at t3
  have hneg : (if ((T : Nat) : Int) + -(c : Int) = 0 then (false && s) else decide (((T : Nat) : Int) + -(c : Int) < 0)) = false := by
    split
    · rfl
    · exact decide_eq_false (by omega)
  rw [hneg]
  show PU (Ieee.double.nearest false (((T : Nat) : Int) + -(c : Int)).natAbs base)
  rw [show (((T : Nat) : Int) + -(c : Int)).natAbs = T - c by omega]
  have hle : LE1 (T - c) base := .inr ⟨by omega, by rw [hT]; omega⟩
  obtain ⟨r, h3, h4⟩ := awY false hle
  rw [h3]
  obtain ⟨m', e', h5, h6, _⟩ := anY false h4
  exact ⟨m', e', h5, h6⟩
def eS (t p k : Nat) : Nat := fop .add .f64 4607182418800017408 (fop .quo .f64 (fop .mul .f64 t p) k)
def eP (t : Nat) : Nat := eS t (eS t (eS t (eS t (eS t (eS t (eS t (eS t (eS t (eS t (eS t (eS t 4607182418800017408 4622945017495814144) 4622382067542392832) 4621819117588971520) 4621256167635550208) 4620693217682128896) 4619567317775286272) 4618441417868443648) 4617315517961601024) 4616189618054758400) 4613937818241073152) 4611686018427387904) 4607182418800017408
def eQ (p : Nat) : Nat := fop .mul .f64 p p
def aYH (x : Nat) : Nat := eQ (eQ (eQ (eQ (eQ (eQ (eQ (eQ (eP (fop .quo .f64 x 4643211215818981376)))))))))
def anZ (x : Nat) : Nat := cond (gtD x 4641240890982006784) 9218868437227405312 (cond (ltD x 13864612927836782592) 0 (aYH x))
theorem arQ (neg : Bool) (r : Nat) (hr : r < 2139095040) : ∃ m e, Ieee.single.read (Ieee.single.word neg r) = .number neg m e ∧ (r = 0 → m = 0) ∧ ∀ K : Nat, r ≤ K * 8388608 → m = 0 ∨ e + (m.log2 : Int) ≤ (K : Int) - 127 := by
  unfold Ieee.Format.read Ieee.Format.word
  have c1 : Ieee.single.signWeight = 2147483648 := by decide
  have c2 : Ieee.single.binade = 8388608 := by decide
  have c3 : Ieee.single.infRung = 2139095040 := by decide
  have c4 : Ieee.single.leastPlace = -149 := by decide
  simp only [c1, c2, c3, c4]
  have hm : (if neg = true then 2147483648 + r else r) % 2147483648 = r := by split <;> omega
  have hs : ((if neg = true then 2147483648 + r else r) / 2147483648 % 2 == 1) = neg := by
    cases neg
    · rw [if_neg (by decide), Nat.div_eq_of_lt (by omega)]; rfl
    · rw [if_pos rfl, Nat.add_div_left _ (by decide), Nat.div_eq_of_lt (by omega)]; rfl
  rw [hm, hs]
  split
  · rename_i h1
    refine ⟨_, _, rfl, fun h => h, fun K hK => ?_⟩
    by_cases h0 : r = 0
    · exact .inl h0
    · right
      have := (Nat.log2_lt h0).2 (show r < 2 ^ 23 by omega)
      have hK1 : 1 ≤ K := by
        cases K with
        | zero => omega
        | succ K => omega
      omega
  · rename_i h1
    have key : ∃ m e, (Ieee.Datum.number neg (8388608 + r % 8388608) (-149 + ((r / 8388608 - 1 : Nat) : Int))) = .number neg m e ∧ (r = 0 → m = 0) ∧ ∀ K : Nat, r ≤ K * 8388608 → m = 0 ∨ e + (m.log2 : Int) ≤ (K : Int) - 127 := by
      refine ⟨_, _, rfl, fun h => by omega, fun K hK => .inr ?_⟩
      have h2 := (Nat.log2_lt (show 8388608 + r % 8388608 ≠ 0 by omega)).2 (show 8388608 + r % 8388608 < 2 ^ 24 by omega)
      have h3 : r / 8388608 ≤ K := by rw [Nat.div_le_iff_le_mul (by decide)]; omega
      have h4 : 1 ≤ r / 8388608 := by rw [Nat.le_div_iff_mul_le (by decide)]; omega
      omega
    first
      | exact key
      | (rw [if_pos (by omega)]; exact key)
def L0 : Ieee.Datum → Prop
  | .nan _ _ => True
  | .infinity s => s = true
  | .number s m _ => s = true ∨ m = 0
theorem aFS (s : Bool) : Ieee.single.read (Ieee.single.word s 2139095040) = .infinity s := by cases s <;> decide
theorem aU0 (s : Bool) (m : Nat) (e : Int) : ∃ r, Ieee.double.nearest s m e = Ieee.double.word s r ∧ r ≤ 9218868437227405312 ∧ (m = 0 → r = 0) := by
  unfold Ieee.Format.nearest
  by_cases hm : m = 0
  · rw [if_pos hm]
    exact ⟨0, rfl, by decide, fun _ => rfl⟩
  · rw [if_neg hm]
    exact ⟨_, rfl, Nat.min_le_right _ _, fun h => (hm h).elim⟩
def adP (x : Nat) : Bool := (fF .f64 (anZ (up x)) .f32).isSome
def an0 (x : Nat) : Nat := (fF .f64 (anZ (up x)) .f32).getD 0
def bI (x : Nat) : Int := cond (!eqB x x) 2143289344 (IntKind.i64.wrap ((x : Nat) : Int))
def sN (a b : Nat) : Bool := bI a == bI b
def sbD (x : Nat) : Bool := decide (IntKind.i64.wrap ((x : Nat) : Int) < 0)
theorem yG {x : Nat} : eqB x x = !isN .f32 x := by
  cases hx : isN .f32 x with
  | true => unfold eqB; rw [pW (.inl hx)]; rfl
  | false => unfold eqB; rw [arN hx]; rfl
theorem aw0 {x : Nat} (hx : x < 4294967296) : ∃ s r, x = Ieee.single.word s r ∧ r < 2147483648 := by
  by_cases h : x < 2147483648
  · exact ⟨false, x, rfl, h⟩
  · refine ⟨true, x - 2147483648, ?_, by omega⟩
    show x = 2147483648 + (x - 2147483648)
    omega
theorem MC (s : Bool) {r : Nat} (hr : r < 2147483648) : Ieee.single.read (Ieee.single.word s r) =
    if r < 8388608 then .number s r (-149) else if r < 2139095040 then .number s (8388608 + r % 8388608) (-149 + ((r / 8388608 - 1 : Nat) : Int)) else if r = 2139095040 then .infinity s else .nan s (r - 2139095040) := by
  unfold Ieee.Format.read Ieee.Format.word
  have c1 : Ieee.single.signWeight = 2147483648 := by decide
  have c2 : Ieee.single.binade = 8388608 := by decide
  have c3 : Ieee.single.infRung = 2139095040 := by decide
  have c4 : Ieee.single.leastPlace = -149 := by decide
  simp only [c1, c2, c3, c4]
  have hm : (if s = true then 2147483648 + r else r) % 2147483648 = r := by split <;> omega
  have hs : ((if s = true then 2147483648 + r else r) / 2147483648 % 2 == 1) = s := by
    cases s
    · rw [if_neg (by decide), Nat.div_eq_of_lt (by omega)]; rfl
    · rw [if_pos rfl, Nat.add_div_left _ (by decide), Nat.div_eq_of_lt (by omega)]; rfl
  rw [hm, hs]
theorem aw1 {s : Bool} {r : Nat} (hr : r ≤ 2139095040) : sbD (up (Ieee.single.word s r)) = s := by
  have key : ∀ q : Nat, q ≤ 9218868437227405312 → sbD (Ieee.double.word s q) = s := by
    intro q hq
    unfold sbD Ieee.Format.word
    have c1 : Ieee.double.signWeight = 9223372036854775808 := by decide
    rw [c1]
    simp only [IntKind.wrap, IntKind.signed, IntKind.bits]
    cases s
    · rw [if_neg (by decide)]
      refine decide_eq_false ?_
      simp
      omega
    · rw [if_pos rfl]
      refine decide_eq_true ?_
      simp
      omega
  have hx := lU (Ieee.single.word s r)
  have hrd := MC s (show r < 2147483648 by omega)
  unfold fF at hx
  rw [if_neg (by decide)] at hx
  have hd : FloatKind.f32.decode (Ieee.single.word s r) = Ieee.single.read (Ieee.single.word s r) := rfl
  by_cases hi : r = 2139095040
  · subst hi
    rw [aFS] at hd
    rw [hd, if_neg (show ¬ ((Ieee.Datum.infinity s).isNaN = true) from fun h => by cases h)] at hx
    unfold floatToFloatBits at hx
    rw [if_neg (by decide), hd] at hx
    rw [← Option.some.inj hx]
    exact key 9218868437227405312 (by decide)
  · obtain ⟨m, e, h1, _⟩ := arQ s r (by omega)
    rw [h1] at hd
    rw [hd, if_neg (show ¬ ((Ieee.Datum.number s m e).isNaN = true) from fun h => by cases h)] at hx
    unfold floatToFloatBits at hx
    rw [if_neg (by decide), hd] at hx
    simp only at hx
    split at hx
    · cases hx
    rw [← Option.some.inj hx]
    show sbD (Ieee.double.nearest s m e) = s
    obtain ⟨q, h2, h3, _⟩ := aU0 s m e
    rw [h2]
    exact key q h3
theorem aaE (s : Bool) (m k : Nat) : (Ieee.signed s m k).natAbs = m * 2 ^ k := by
  unfold Ieee.signed
  cases s
  · rw [if_neg (by decide), Nat.shiftLeft_eq]; exact Int.natAbs_natCast _
  · rw [if_pos rfl, Nat.shiftLeft_eq, Int.natAbs_neg]; exact Int.natAbs_natCast _
theorem az8 {a b : Nat} (h : a < b) : 2 ^ a * 2 ≤ 2 ^ b := by
  rw [← Nat.pow_succ]
  exact Nat.pow_le_pow_right (by decide) h
theorem aNT {s : Bool} {q r : Nat} (hq : q ≤ 2139095040) (hr : r ≤ 2139095040) (h : eqB (Ieee.single.word s q) (Ieee.single.word s r) = true) : q = r := by
  unfold eqB Ieee.Format.order at h
  have h : ((Ieee.single.read (Ieee.single.word s q)).order (Ieee.single.read (Ieee.single.word s r)) == some .eq) = true := h
  rw [MC s (show q < 2147483648 by omega), MC s (show r < 2147483648 by omega)] at h
  have val : ∀ (m n : Nat) (i j : Int), ((Ieee.Datum.number s m i).order (.number s n j) == some .eq) = true → m * 2 ^ (i - min i j).toNat = n * 2 ^ (j - min i j).toNat := by
    intro m n i j h
    unfold Ieee.Datum.order at h
    dsimp only at h
    have h2 : compare (Ieee.signed s m (i - min i j).toNat) (Ieee.signed s n (j - min i j).toNat) = .eq := by simpa using h
    have h3 := Int.compare_eq_eq.1 h2
    have h4 := congrArg Int.natAbs h3
    rwa [aaE, aaE] at h4
  have norm : ∀ (m n : Nat) (i j : Int), m < 16777216 → 8388608 ≤ n → n < 16777216 → i < j → m * 2 ^ (i - min i j).toNat = n * 2 ^ (j - min i j).toNat → False := by
    intro m n i j hm hn _ hij he
    rw [Int.min_eq_left (by omega), show (i - i).toNat = 0 by omega, Nat.pow_zero, Nat.mul_one] at he
    have h1 := az8 (show 0 < (j - i).toNat by omega)
    rw [Nat.pow_zero] at h1
    have h2 : 8388608 * 2 ≤ n * 2 ^ (j - i).toNat := Nat.mul_le_mul hn (by omega)
    omega
  have hinf : ∀ (m : Nat) (i : Int), ((Ieee.Datum.number s m i).order (.infinity s) == some .eq) = false := by intro m i; cases s <;> rfl
  have hinf' : ∀ (m : Nat) (i : Int), ((Ieee.Datum.infinity s).order (.number s m i) == some .eq) = false := by intro m i; cases s <;> rfl
  by_cases q1 : q < 8388608
  · rw [if_pos q1] at h
    by_cases r1 : r < 8388608
    · rw [if_pos r1] at h
      have := val _ _ _ _ h
      rw [Int.min_eq_left (by omega)] at this
      simpa using this
    · rw [if_neg r1] at h
      by_cases r2 : r < 2139095040
      · rw [if_pos r2] at h
        have hv := val _ _ _ _ h
        by_cases he : r / 8388608 - 1 = 0
        · rw [he] at hv
          simp at hv
          omega
        · exact (norm _ _ _ _ (by omega) (by omega) (by omega) (by omega) hv).elim
      · rw [if_neg r2, if_pos (by omega), hinf] at h
        cases h
  · rw [if_neg q1] at h
    by_cases q2 : q < 2139095040
    · rw [if_pos q2] at h
      by_cases r1 : r < 8388608
      · rw [if_pos r1] at h
        have hv := val _ _ _ _ h
        by_cases he : q / 8388608 - 1 = 0
        · rw [he] at hv
          simp at hv
          omega
        · rw [Int.min_comm] at hv
          exact (norm _ _ _ _ (by omega) (by omega) (by omega) (by omega) hv.symm).elim
      · rw [if_neg r1] at h
        by_cases r2 : r < 2139095040
        · rw [if_pos r2] at h
          have hv := val _ _ _ _ h
          by_cases h1 : q / 8388608 < r / 8388608
          · exact (norm _ _ _ _ (by omega) (by omega) (by omega) (by omega) hv).elim
          · by_cases h2 : r / 8388608 < q / 8388608
            · rw [Int.min_comm] at hv
              exact (norm _ _ _ _ (by omega) (by omega) (by omega) (by omega) hv.symm).elim
            · have h3 : q / 8388608 = r / 8388608 := by omega
              rw [h3, Int.min_self] at hv
              simp at hv
              omega
        · rw [if_neg r2, if_pos (by omega), hinf] at h
          cases h
    · rw [if_neg q2, if_pos (by omega)] at h
      by_cases r1 : r < 8388608
      · rw [if_pos r1, hinf'] at h
        cases h
      · rw [if_neg r1] at h
        by_cases r2 : r < 2139095040
        · rw [if_pos r2, hinf'] at h
          cases h
        · omega
theorem aw2 {s : Bool} {q : Nat} (hq : q < 2147483648) (h : isN .f32 (Ieee.single.word s q) = false) : q ≤ 2139095040 := by
  have h : (Ieee.single.read (Ieee.single.word s q)).isNaN = false := h
  rw [MC s hq] at h
  by_cases h1 : q ≤ 2139095040
  · exact h1
  · rw [if_neg (by omega), if_neg (by omega), if_neg (by omega)] at h
    cases h
def imN (a b : Nat) : Bool := cond (!eqB a a || !eqB b b) (!eqB a a && !eqB b b) (eqB a b && (sbD (up a) == sbD (up b)))
theorem arR {a : Nat} (ha : a < 4294967296) (hn : isN .f32 a = false) : bI a = (a : Int) := by
  unfold bI
  rw [yG, hn]
  exact aFN (by omega) (by omega)
theorem ajJ {a : Nat} (hn : isN .f32 a = true) : bI a = 2143289344 := by
  unfold bI
  rw [yG, hn]
  rfl
theorem aFT {a : Nat} (ha : a < 4294967296) (hn : isN .f32 a = false) : (2143289344 : Int) ≠ bI a := by
  rw [arR ha hn]
  intro h
  have : a = 2143289344 := by omega
  subst this
  exact absurd hn (by decide)
theorem aFU {a b : Nat} (ha : a < 4294967296) (hb : b < 4294967296) : imN a b = sN a b := by
  unfold imN
  rw [yG, yG (x := b)]
  cases hna : isN .f32 a with
  | true =>
    cases hnb : isN .f32 b with
    | true =>
      unfold sN
      rw [ajJ hna, ajJ hnb]
      rfl
    | false =>
      have h := aFT hb hnb
      unfold sN
      rw [ajJ hna]
      exact (beq_eq_false_iff_ne.2 h).symm
  | false =>
    cases hnb : isN .f32 b with
    | true =>
      have h := aFT ha hna
      unfold sN
      rw [ajJ hnb]
      exact (beq_eq_false_iff_ne.2 (Ne.symm h)).symm
    | false =>
      show (eqB a b && (sbD (up a) == sbD (up b))) = sN a b
      unfold sN
      rw [arR ha hna, arR hb hnb]
      by_cases hab : a = b
      · subst hab
        rw [yG, hna]
        simp
      · have h1 : ((a : Int) == (b : Int)) = false := beq_eq_false_iff_ne.2 (by omega)
        rw [h1]
        cases he : eqB a b with
        | false => rfl
        | true =>
          rw [Bool.true_and]
          obtain ⟨s, q, rfl, hq⟩ := aw0 ha
          obtain ⟨t, r, rfl, hr⟩ := aw0 hb
          have hq' := aw2 hq hna
          have hr' := aw2 hr hnb
          rw [aw1 hq', aw1 hr']
          by_cases hst : s = t
          · subst hst
            exact (hab (by rw [aNT hq' hr' he])).elim
          · exact beq_eq_false_iff_ne.2 hst
def QY : Fns := gX []
theorem adQ : ∀ f, FnT Try.prog f (QY f) := bJ
theorem ajK (N : Nat) (x : Nat) : run ty QY fB N Try.f25 [.fl .f32 x] []
    = some (.bool (eqB (fop .sub .f32 x x) 0), []) := by
  kernel_rfl
theorem uI : FnT Try.prog 25 (gT (gF1 iH)) := by
  refine fnT adQ Try.func25 rfl rfl fB fun vs h v h' e => ⟨0, ?_⟩
  rw [T.run_of] at e
  unfold gF1 at e
  split at e
  case h_2 => cases e
  rename_i x
  cases e
  refine Eq.trans (ajK 0 x) ?_
  rfl
def inB (n lo hi : Int) : Bool := decide (n ≥ lo) && decide (n ≤ hi)
def gIn : G := fun vs h => match vs, h with | [.int .i64 n, .int .i64 a, .int .i64 b], [] => some (.bool (inB n a b), []) | _, _ => none
def adR : Fns := gX []
theorem ajL : ∀ f, FnT Try.prog f (adR f) := bJ
theorem arS (N : Nat) (n : Int) (a : Int) (b : Int) : run ty adR fB N Try.f43 [.int .i64 n, .int .i64 a, .int .i64 b] []
    = (match decide ((n : Int) ≥ a) with | true => some (.bool (decide ((n : Int) ≤ b)), []) | false => some (.bool false, [])) := by
  kernel_rfl
theorem MF : FnT Try.prog 43 (gT gIn) := by
  refine fnT ajL Try.func43 rfl rfl fB fun vs h v h' e => ⟨0, ?_⟩
  rw [T.run_of] at e
  unfold gIn at e
  split at e
  case h_2 => cases e
  rename_i n a b
  cases e
  refine Eq.trans (arS 0 n a b) ?_
  unfold inB
  cases decide (n ≥ a) <;> rfl
def aU1 (f : FuncId) (p : Nat → Bool) : GT := fun vs h => match vs, h with
  | [.sl 0 0 n, .fn f'], [.at rw (.fl .f32 l)] => if f' = f then .ite (decide (l.length = n ∧ n < 2147483648)) (.ret (.int .i64 (adM p l)) [.at rw (.fl .f32 l)]) .no else .no
  | [.nil, .fn f'], [] => if f' = f then .ret (.int .i64 (-1)) [] else .no
  | _, _ => .no
def aU2 (f : FuncId) (p : Nat → Bool) : GT := fun vs h => match vs, h with
  | [.sl 0 0 n, .fn f'], [.at rw (.fl .f32 l)] => if f' = f then .ite (decide (l.length = n ∧ n < 2147483648)) (.ret (.bool (decide (adM p l ≥ 0))) [.at rw (.fl .f32 l)]) .no else .no
  | [.nil, .fn f'], [] => if f' = f then .ret (.bool false) [] else .no
  | _, _ => .no
def QZ (p : Nat → Bool) : GT := fun vs h => match vs, h with
  | [.sl 0 0 n], [.at rw (.fl .f32 l)] => .ite (decide (l.length = n ∧ n < 2147483648)) (.ret (.bool (l.all p)) [.at rw (.fl .f32 l)]) .no
  | [.nil], [] => .ret (.bool true) []
  | _, _ => .no
def an1 : Fns := gX [(25, gT (gF1 iH))]
theorem arT : ∀ f, FnT Try.prog f (an1 f) := (aC (k := 25) uI bJ)
theorem aFV (N : Nat) (x : Nat) : run ty an1 fB N Try.f49 [.fl .f32 x] []
    = some (.bool (!(iH x)), []) := by
  kernel_rfl
theorem aNU : FnT Try.prog 49 (gT (gF1 (fun x => !iH x))) := by
  refine fnT arT Try.func49 rfl rfl fB fun vs h v h' e => ⟨0, ?_⟩
  rw [T.run_of] at e
  unfold gF1 at e
  split at e
  case h_2 => cases e
  rename_i x
  cases e
  refine Eq.trans (aFV 0 x) ?_
  show _ = some (V.bool (!iH x), [])
  rfl
def Q3 : Ann := ⟨fun r => if r = 2 then some ([0, 1, 7, 8], [4]) else none, fun _ _ => .quiet⟩
def MG : Fns := gX [(49, gT (gF1 (fun x => !iH x)))]
theorem an2 : ∀ f, FnT Try.prog f (MG f) := (aC (k := 49) aNU bJ)
def MH (s0n : Nat) (t7 : Int) (t8 : Int) (rw0 : Bool) (l0 : List Nat) : St := ⟨(.sl 0 0 s0n :: .fn 49 :: .any :: .any :: .any :: .any :: .any :: .int .i64 t7 :: .int .i64 t8 :: (fE 10 [])), [.at rw0 (.fl .f32 l0)]⟩
abbrev az9 : Option (List Nat × List Nat) := some ([0, 1, 7, 8], [4])
noncomputable def MI {R : Type} (N M : Nat) (s : St) (K : X → St → Option R) : Option R := pO 1 az9 (fun st K => exec ty MG Q3 N 1 (oD [true, false, true, false, false] Try.f63) st K) M s K
noncomputable def MJ {R : Type} (N : Nat) (K : X → St → Option R) : X → St → Option R := rF 0 (yS MG Q3 N 1 (oD [true, true] Try.f63) (K))
def aaF (t4 : Int) (rw0 : Bool) (l0 : List Nat) : St := ⟨(.any :: .any :: .any :: .any :: .int .i64 t4 :: (fE 14 [])), [.at rw0 (.fl .f32 l0)]⟩
def aaG (rw0 : Bool) (l0 : List Nat) : St := ⟨(fE 19 []), [.at rw0 (.fl .f32 l0)]⟩
theorem aAA (N : Nat) (n : Nat) (rw : Bool) (l : List Nat) : run ty MG Q3 N Try.f63 [.sl 0 0 n, .fn 49] [.at rw (.fl .f32 l)]
    = MI N N (MH n ((n : Nat) : Int) 0 rw l) (MJ N (mF Try.f63 1)) := by
  kernel_rfl
theorem aaH {R : Type} (N M : Nat) (K : X → St → Option R) (s0n : Nat) (t7 : Int) (t8 : Int) (rw0 : Bool) (l0 : List Nat) : MI N (M + 1) (MH s0n t7 t8 rw0 l0) K
    = (match decide ((t8 : Int) < t7) with | true => (match decide (0 ≤ (t8 : Int) ∧ (t8 : Int) < ((s0n : Nat) : Int)) with | true => (match l0[0 + (t8).toNat * 1]? with | some e1 => (match !iH e1 with | true => K .ret (aaF t8 rw0 l0) | false => MI N M (MH s0n t7 (IntKind.i64.wrap (t8 + 1)) rw0 l0) K) | none => none) | false => none) | false => K (.exit 0) (aaG rw0 l0)) := by
  kernel_rfl
theorem ajM (N : Nat) (t4 : Int) (rw0 : Bool) (l0 : List Nat) : MJ N (mF Try.f63 1) .ret (aaF t4 rw0 l0)
    = some (.int .i64 t4, [.at rw0 (.fl .f32 l0)]) := by
  kernel_rfl
theorem ajN (N : Nat) (rw0 : Bool) (l0 : List Nat) : MJ N (mF Try.f63 1) (.exit 0) (aaG rw0 l0)
    = some (.int .i64 (-1), [.at rw0 (.fl .f32 l0)]) := by
  kernel_rfl
theorem aFW : FnT Try.prog 63 (aU1 49 (fun x => !iH x)) := by
  refine fnT an2 Try.func63 rfl rfl Q3 fun vs h v h' e => ?_
  unfold aU1 at e
  split at e
  · rename_i n f' rw l
    split at e
    · rename_i hf
      subst hf
      obtain ⟨hd, e⟩ := T.pre_inv e
      obtain ⟨rfl, rfl⟩ := T.ret_inv e
      obtain ⟨rfl, hb⟩ := of_decide_eq_true hd
      refine ⟨l.length + 1, Eq.trans (aAA _ _ _ _) ?_⟩
      refine Eq.trans (anX l (fun x => !iH x) (fun M i => MI (l.length + 1) M (MH l.length ((l.length : Nat) : Int) i rw l) (MJ (l.length + 1) (mF Try.f63 1))) (fun j => some (.int .i64 (j : Int), [.at rw (.fl .f32 l)])) (some (.int .i64 (-1), [.at rw (.fl .f32 l)])) (fun M i x hx => ?_) (fun M => ?_)) ?_
      · have hi := xM hx
        simp only [aaH, dlt hi, din hi, ix, hx, wr (show i < 2147483648 by omega), ajM] <;> (cases !iH x <;> rfl)
      · simp only [aaH, dge (Nat.le_refl _), ajN]
      · unfold adM
        cases oI (fun x => !iH x) l 0 <;> rfl
    · exact (T.no_inv e).elim
  · split at e
    · rename_i hf
      subst hf
      obtain ⟨rfl, rfl⟩ := T.ret_inv e
      exact ⟨1, by kernel_rfl⟩
    · exact (T.no_inv e).elim
  · exact (T.no_inv e).elim
def ahA : Fns := gX [(63, aU1 49 (fun x => !iH x))]
theorem an3 : ∀ f, FnT Try.prog f (ahA f) := (aC (k := 63) aFW bJ)
theorem aAB (N : Nat) (n : Nat) (rw : Bool) (l : List Nat) : run ty ahA fB N Try.f48 [.sl 0 0 n, .fn 49] [.at rw (.fl .f32 l)]
    = (match decide (l.length = n ∧ n < 2147483648) with | true => some (.bool (decide ((adM (fun x => !iH x) l : Int) ≥ 0)), [.at rw (.fl .f32 l)]) | false => none) := by
  kernel_rfl
theorem aFX : FnT Try.prog 48 (aU2 49 (fun x => !iH x)) := by
  refine fnT an3 Try.func48 rfl rfl fB fun vs h v h' e => ⟨0, ?_⟩
  unfold aU2 at e
  split at e
  · split at e
    · rename_i n f' rw l hf
      subst hf
      obtain ⟨hd, e⟩ := T.pre_inv e
      obtain ⟨rfl, rfl⟩ := T.ret_inv e
      refine Eq.trans (aAB 0 _ _ _) ?_
      rw [hd]
    · exact (T.no_inv e).elim
  · split at e
    · rename_i hf
      subst hf
      obtain ⟨rfl, rfl⟩ := T.ret_inv e
      kernel_rfl
    · exact (T.no_inv e).elim
  · exact (T.no_inv e).elim
def OL : Fns := gX [(48, aU2 49 (fun x => !iH x))]
theorem abW : ∀ f, FnT Try.prog f (OL f) := (aC (k := 48) aFX bJ)
theorem agK (N : Nat) (n : Nat) (rw : Bool) (l : List Nat) : run ty OL fB N Try.f21 [.sl 0 0 n] [.at rw (.fl .f32 l)]
    = (match decide (l.length = n ∧ n < 2147483648) with | true => some (.bool (!(decide (adM (fun x => !iH x) l ≥ 0))), [.at rw (.fl .f32 l)]) | false => none) := by
  kernel_rfl
theorem pF : FnT Try.prog 21 (QZ iH) := by
  refine fnT abW Try.func21 rfl rfl fB fun vs h v h' e => ⟨0, ?_⟩
  unfold QZ at e
  split at e
  · obtain ⟨hd, e⟩ := T.pre_inv e
    obtain ⟨rfl, rfl⟩ := T.ret_inv e
    refine Eq.trans (agK 0 _ _ _) ?_
    rw [hd, ← aFO iH]
  · obtain ⟨rfl, rfl⟩ := T.ret_inv e
    kernel_rfl
  · exact (T.no_inv e).elim
theorem ajO : FnT Try.prog 69 (ag7 .f64 .u64) := ag8 Try.func69 (by decide) (by rfl) (by rfl) (by rfl)
def gSB : GT := fun vs h => match vs, h with | [.fl .f64 x], [] => .ite (!(isN .f64 x)) (.ret (.bool (sbD x)) []) .no | _, _ => .no
def gSN : GT := fun vs h => match vs, h with | [.fl .f32 a, .fl .f32 b], [] => .ite (decide (a < 4294967296 ∧ b < 4294967296)) (.ret (.bool (sN a b)) []) .no | _, _ => .no
theorem aw3 {x : Nat} (h : isN .f32 x = false) : isN .f64 (up x) = false := by
  unfold isN
  rcases aFQ h with ⟨s, hd⟩ | ⟨s, m, e, hd, _⟩ <;> rw [hd] <;> rfl
def aaI : Fns := gX [(69, (ag7 .f64 .u64))]
theorem agL : ∀ f, FnT Try.prog f (aaI f) := (aC (k := 69) ajO bJ)
theorem an4 (N : Nat) (x : Nat) : run ty aaI fB N Try.f60 [.fl .f64 x] []
    = (match !(isN .f64 x) with | true => some (.bool (decide ((IntKind.i64.wrap ((x : Nat) : Int) : Int) < 0)), []) | false => none) := by
  kernel_rfl
theorem arU : FnT Try.prog 60 (gSB) := by
  refine fnT agL Try.func60 rfl rfl fB fun vs h v h' e => ⟨0, ?_⟩
  unfold gSB at e
  split at e
  case h_2 => exact (T.no_inv e).elim
  rename_i x
  obtain ⟨hx, e⟩ := T.pre_inv e
  obtain ⟨rfl, rfl⟩ := T.ret_inv e
  refine Eq.trans (an4 0 x) ?_
  rw [hx]
  rfl
def JI : Fns := gX [(60, gSB)]
theorem Y0 : ∀ f, FnT Try.prog f (JI f) := (aC (k := 60) arU bJ)
theorem adS (N : Nat) (a : Nat) (b : Nat) : run ty JI fB N Try.f45 [.fl .f32 a, .fl .f32 b] []
    = (match FloatKind.f32.format.order a a != some .eq with | true => (match FloatKind.f32.format.order a a != some .eq with | true => some (.bool (FloatKind.f32.format.order b b != some .eq), []) | false => some (.bool false, [])) | false => (match FloatKind.f32.format.order b b != some .eq with | true => (match FloatKind.f32.format.order a a != some .eq with | true => some (.bool (FloatKind.f32.format.order b b != some .eq), []) | false => some (.bool false, [])) | false => (match eqB a b with | true => (match fF .f32 a .f64 with | some c1 => (match !(isN .f64 c1) with | true => (match fF .f32 b .f64 with | some c2 => (match !(isN .f64 c2) with | true => some (.bool ((sbD c1) == (sbD c2)), []) | false => none) | none => none) | false => none) | none => none) | false => some (.bool false, [])))) := by
  kernel_rfl
theorem zI : FnT Try.prog 45 (gSN) := by
  refine fnT Y0 Try.func45 rfl rfl fB fun vs h v h' e => ⟨0, ?_⟩
  unfold gSN at e
  split at e
  case h_2 => exact (T.no_inv e).elim
  rename_i a b
  obtain ⟨hx, e⟩ := T.pre_inv e
  obtain ⟨rfl, rfl⟩ := T.ret_inv e
  obtain ⟨ha, hb⟩ := of_decide_eq_true hx
  refine Eq.trans (adS 0 a b) ?_
  rw [← aFU ha hb]
  unfold imN
  simp only [show ∀ x y, (FloatKind.f32.format.order x y != some .eq) = !eqB x y from fun _ _ => rfl, lU]
  have h1 : isN .f32 a = false → (!(isN .f64 (up a))) = true := fun h => by rw [aw3 h]; rfl
  have h2 : isN .f32 b = false → (!(isN .f64 (up b))) = true := fun h => by rw [aw3 h]; rfl
  rw [yG, yG (x := b)]
  cases hna : isN .f32 a with
  | true => cases isN .f32 b <;> rfl
  | false =>
    cases hnb : isN .f32 b with
    | true => rfl
    | false =>
      rw [h1 hna, h2 hnb]
      cases eqB a b <;> rfl
end Go.Proofs.Ytpjoapgfdjfbdaa.Ab
namespace Go.Proofs.Ytpjoapgfdjfbdaa.Ab
set_option linter.unusedVariables false
set_option linter.unusedSimpArgs false
open Go Go.RowKit Go.Lib
set_option maxHeartbeats 4000000 in
set_option maxRecDepth 100000 in
theorem arV (n : Nat) (w : World) (h0 : 0 < n) (hn : n ≤ 1000000) :
    Calls Try.prog 70 #[.slice none 0 0, .int .i64 n] w fun e w' => ∃ cells : Array Value, ∃ c : Nat, e = .returned (.slice (some ⟨w.heap.size, 0, none⟩) 0 c) ∧ w' = w.drew.alloc (.cells cells 29) ∧ c ≤ maxLen ∧ c = cells.size := by
  have h1 : ¬ ((n : Int) < 0) := by omega
  have h2 : wrap64 ((0 : Int) - (0 : Int)) = 0 := by unfold wrap64; omega
  have h3 : wrap64 ((n : Int) - 0) = (n : Int) := by unfold wrap64; omega
  have h4 : (n : Int) > 0 := by omega
  obtain ⟨i, z, d, rI⟩ := row abV (t := 29) rfl
  have hzl : z.cells.size = 1 := by
    have := (rI.rep ⟨noZ, []⟩).len
    simp only [List.length_cons, List.length_nil, Array.length_toList] at this
    omega
  have hrz : ∀ ty, (Builtin.append_ #[25, 3] ty #[.slice none 0 0, .int .i64 (n : Int)]).run Try.prog w = _ := fun ty =>
    Lib.run_append_grow_zeros w 25 3 ty 29 i z .i64 .i64 Try.underlying25 Try.underlying3 rI.info rI.zero none 0 0 [] (run_firstCells_none w.drew i.size 0 0 0) n h0 (by rw [rI.size]; decide) (by omega) (by omega)
      (by rw [rI.bytes]; show n * 4 ≤ _; omega) (growslice_fits (by omega) (by rw [rI.bytes]; show (0 + n) * 4 ≤ _; omega))
  have hge := grownCap_ge w (0 + n) 0 29
  have hgm := grownCap_le_maxLen w (0 + n) 0 29 (by unfold maxLen; omega)
  rw [Nat.zero_add] at hge hgm
  generalize z.cells = Z at hrz hzl
  go_enter Try.func70, Try.ntmps70
  go_wp2_with (at_builtin; refine Lib.wpList_append_run _ rfl _ _ _ _ rfl _ _ rfl rfl _ _ (hrz _) ?_)
  all_goals (go_ret; exact ⟨_, _, rfl, rfl, hgm, by simp only [Array.size_append, size_zeroCells, hzl, Nat.mul_one]; omega⟩)
def aFY : GT := fun vs h => match vs, h with
  | [.nil, .int .i64 n], [] => .ite (decide (0 < n ∧ n ≤ 1000000)) (.ret (.sl 0 0 0) [.at true (.fl .f32 [])]) .no
  | _, _ => .no
theorem aNV : FnT Try.prog 70 aFY := by
  intro vs hp v h' ee μ w cvs hr hv
  unfold aFY at ee
  split at ee
  case h_2 => cases ee
  rename_i n
  obtain ⟨hd, e2⟩ := (by
    revert ee
    show (T.ite _ _ _).run = _ → _
    cases decide (0 < n ∧ n ≤ 1000000) with
    | false => intro e; cases e
    | true => intro e; exact ⟨rfl, e⟩ : decide (0 < n ∧ n ≤ 1000000) = true ∧ (T.ret (.sl 0 0 0) [.at true (.fl .f32 [])]).run = some (v, h'))
  cases e2
  have hd := of_decide_eq_true hd
  obtain ⟨c1, c2, rfl, hc1, hc2⟩ : ∃ c1 c2, cvs = [c1, c2] ∧ c1 = .slice none 0 0 ∧ c2 = .int .i64 n := by
    match cvs, hv with
    | [c1, c2], hv => exact ⟨c1, c2, rfl, hv.1, hv.2.1⟩
  subst hc1
  subst hc2
  obtain ⟨m, rfl⟩ : ∃ m : Nat, n = (m : Int) := ⟨n.toNat, by omega⟩
  refine .inl ⟨by kernel_rfl, (arV m w (by omega) (by omega)).mono fun e w' ⟨cells, c, he, hw, hle, hsz⟩ => ⟨_, he, ?_⟩⟩
  subst hw
  have hz : μ.l.length = 0 := hr.len
  exact YT (n := 1) hr (L8 (hr.drewN 1) (.fl .f32 []) 29 cells (fun j x hx => by cases hx) 0 c (Nat.zero_le _) hle (by rw [hsz]; exact Nat.mul_one _))
end Go.Proofs.Ytpjoapgfdjfbdaa.Ab
namespace Go.Proofs.Ytpjoapgfdjfbdaa.Ab
set_option linter.unusedVariables false
set_option linter.unusedSimpArgs false
open Go
inductive Told
  | no
  | one (c : Bool) (s : St)
  | two (b c1 : Bool) (s1 : St) (c2 : Bool) (s2 : St)
def tu1 (g : St → Option (Bool × St)) (st : St) : Told := match g st with | some (c, s) => .one c s | none => .no
abbrev GsA := Nat → Option (St → Told)
def pU {R : Type} (ty : Ty) (fns : Fns) (an : Ann) (gs : GsA) (N k : Nat) : Code → St → (X → St → Option R) → Option R
  | .skip, st, K => K .norm st
  | .label _, st, K => K .norm st
  | .region id ops draw, st, K =>
    match gs id with
    | some g => match g st with
      | .one c st' => match c with
        | true => K .norm st'
        | false => none
      | .two b c1 s1 c2 s2 => match b with
        | true => match c1 with
          | true => K .norm s1
          | false => none
        | false => match c2 with
          | true => K .norm s2
          | false => none
      | .no => none
    | none =>
      match draw with
      | true => match ai5 (an.cl id) ops with
        | true => abU ty fns (an.cl id) ops 0 ops.toList st.t st.h fun t h => K .norm ⟨t, h⟩
        | false => none
      | false => abU ty fns (fun _ => .plain) ops 0 ops.toList st.t st.h fun t h => K .norm ⟨t, h⟩
  | .seq a b, st, K => pU ty fns an gs N k a st fun x st => match x with
    | .norm => pU ty fns an gs N k b st K
    | x => K x st
  | .cond c a b, st, K => match ev st.t c with
    | .bool p => match p with
      | true => pU ty fns an gs N k a st K
      | false => pU ty fns an gs N k b st K
    | _ => none
  | .block id b, st, K => pU ty fns an gs N k b st fun x st => match x with
    | .exit j => match decide (j = id) with
      | true => K .norm st
      | false => K (.exit j) st
    | x => K x st
  | .loop b, st, K => awP k ((nU b).bind an.keep) (fun st K => pU ty fns an gs N k b st K) N st K
  | .exit id, st, K => K (.exit id) st
  | .ret, st, K => K .ret st
  | _, _, _ => none
def uQ (ty : Ty) (fns : Fns) (an : Ann) (gs : GsA) (N : Nat) (fn : Func) (vs : List V) (h : H) : Option (V × H) :=
  match fn.body with
  | none => none
  | some code => pU ty fns an gs N h.length code ⟨vs ++ List.replicate (fn.ntmps - vs.length) V.no, h⟩ fun x st => match x with
    | .exit _ => none
    | _ => finish ty fn h.length st
section
variable {P : Program} {R : Type} {r : R}
def aFZ (P : Program) (id : Nat) (ops : Array Oper) (draw : Bool) (μ0 : Mu) (h0 : H) (w0 : World) (st s : St) : Prop :=
  ∀ (Q : Exit → Act → World → Prop), (∀ μ a w, Inv μ0 h0 w0 μ s a w → Q .normal a w) → ∀ μ a w, Inv μ0 h0 w0 μ st a w → (Code.region id ops draw).wp P Q a w
def ab9 (P : Program) (id : Nat) (ops : Array Oper) (draw : Bool) (g : St → Told) : Prop :=
  ∀ (μ0 : Mu) (h0 : H) (w0 : World) (st : St), (∀ s, g st = .one true s → aFZ P id ops draw μ0 h0 w0 st s) ∧
    (∀ s1 c2 s2, g st = .two true true s1 c2 s2 → aFZ P id ops draw μ0 h0 w0 st s1) ∧ (∀ c1 s1 s2, g st = .two false c1 s1 true s2 → aFZ P id ops draw μ0 h0 w0 st s2)
def vC (P : Program) (id : Nat) (ops : Array Oper) (draw : Bool) (g : St → Option (Bool × St)) : Prop :=
  ∀ (μ0 : Mu) (h0 : H) (w0 : World) (st st' : St), g st = some (true, st') → ∀ (Q : Exit → Act → World → Prop), (∀ μ a w, Inv μ0 h0 w0 μ st' a w → Q .normal a w) → ∀ μ a w, Inv μ0 h0 w0 μ st a w → (Code.region id ops draw).wp P Q a w
theorem aNW {g : St → Option (Bool × St)} {st s : St} (h : tu1 g st = .one true s) : g st = some (true, s) := by
  unfold tu1 at h
  split at h
  · rename_i c s' e
    cases h
    exact e
  · cases h
theorem yT {id : Nat} {ops : Array Oper} {draw : Bool} {g : St → Option (Bool × St)} (h : vC P id ops draw g) : ab9 P id ops draw (tu1 g) := by
  intro μ0 h0 w0 st
  refine ⟨fun s e => h μ0 h0 w0 st s (aNW e), fun s1 c2 s2 e => ?_, fun c1 s1 s2 e => ?_⟩
  all_goals
    unfold tu1 at e
    split at e <;> cases e
def qA (P : Program) (gs : GsA) : Code → Prop
  | .region id ops draw => match gs id with | some g => ab9 P id ops draw g | none => True
  | .seq a b => qA P gs a ∧ qA P gs b
  | .cond _ a b => qA P gs a ∧ qA P gs b
  | .block _ b => qA P gs b
  | .loop b => qA P gs b
  | _ => True
theorem aF0 {ty : Ty} (hty : tJ P ty) {fns : Fns} (hfn : ∀ f, FnT P f (fns f)) (hm : P.follows .mixedOrders = true) {an : Ann} {gs : GsA} {N : Nat} {μ0 : Mu} {h0 : H} {w0 : World} :
    ∀ (c : Code), qA P gs c → ∀ {st : St} {K : X → St → Option R}, pU ty fns an gs N μ0.l.length c st K = some r →
      ∀ Q, (∀ x st', K x st' = some r → ∀ μ a w, Inv μ0 h0 w0 μ st' a w → Q (X.to x) a w) → ∀ μ a w, Inv μ0 h0 w0 μ st a w → c.wp P Q a w := by
  intro c
  induction c with
  | skip => intro hg st K e Q hQ μ a w hi; exact wp_skip (hQ .norm st e μ a w hi)
  | label l => intro hg st K e Q hQ μ a w hi; exact wp_label (hQ .norm st e μ a w hi)
  | region id ops draw =>
    intro hg st K e Q hQ μ a w hi
    simp only [pU] at e
    simp only [qA] at hg
    cases hgs : gs id with
    | some g =>
      rw [hgs] at e hg
      simp only at e hg
      obtain ⟨g1, g2, g3⟩ := hg μ0 h0 w0 st
      cases hgst : g st with
      | no => rw [hgst] at e; cases e
      | one c st' =>
        rw [hgst] at e
        cases c with
        | false => cases e
        | true => exact g1 st' hgst Q (fun μ a w hi => hQ .norm st' e μ a w hi) μ a w hi
      | two b c1 s1 c2 s2 =>
        rw [hgst] at e
        cases b with
        | true =>
          cases c1 with
          | false => cases e
          | true => exact g2 s1 c2 s2 hgst Q (fun μ a w hi => hQ .norm s1 e μ a w hi) μ a w hi
        | false =>
          cases c2 with
          | false => cases e
          | true => exact g3 c1 s1 s2 hgst Q (fun μ a w hi => hQ .norm s2 e μ a w hi) μ a w hi
    | none =>
      rw [hgs] at e
      simp only at e
      split at e
      · split at e
        · rename_i hok
          obtain ⟨t', h', h1, h2⟩ := rE hty hfn e
          exact wp_region_any hm (awV (fun μ a w hi => hQ .norm _ h1 μ a w hi) hok h2 ⟨hi.slots, hi.defers, hi.ev.trans (Ev.drewN hi.ev.rel 1)⟩)
        · cases e
      · obtain ⟨t', h', h1, h2⟩ := rE hty hfn e
        exact wp_region_list (aFL (fun μ a w hi => hQ .norm _ h1 μ a w hi) h2 hi)
  | seq x y ihx ihy =>
    intro hg st K e Q hQ μ a w hi
    simp only [pU] at e
    refine wp_seq (ihx hg.1 e _ (fun x st' hx μ' a' w' hi' => ?_) μ a w hi)
    cases x with
    | norm => exact ihy hg.2 hx Q hQ μ' a' w' hi'
    | exit id => exact hQ _ st' hx μ' a' w' hi'
    | ret => exact hQ _ st' hx μ' a' w' hi'
  | cond c x y ihx ihy =>
    intro hg st K e Q hQ μ a w hi
    simp only [pU] at e
    split at e
    · rename_i p hc
      have h1 := ajB hi.slots c
      rw [hc] at h1
      split at e
      · exact wp_cond_true (oH h1) (ihx hg.1 e Q hQ μ a w hi)
      · exact wp_cond_false (oH h1) (ihy hg.2 e Q hQ μ a w hi)
    · cases e
  | block id b ih =>
    intro hg st K e Q hQ μ a w hi
    simp only [pU] at e
    refine wp_block (ih hg e _ (fun x st' hx μ' a' w' hi' => ?_) μ a w hi)
    cases x with
    | norm => exact hQ _ st' hx μ' a' w' hi'
    | exit j =>
      simp only at hx
      simp only [X.to, Exit.inBlock]
      split at hx
      · rename_i hj
        simp only [decide_eq_true_eq] at hj
        rw [if_pos hj]
        exact hQ _ st' hx μ' a' w' hi'
      · rename_i hj
        simp only [decide_eq_false_iff_not] at hj
        rw [if_neg hj]
        exact hQ _ st' hx μ' a' w' hi'
    | ret => exact hQ _ st' hx μ' a' w' hi'
  | loop b ih =>
    intro hg st K e Q hQ μ a w hi
    simp only [pU, awP] at e
    obtain ⟨st', h1, h2⟩ := QX (h0 := h0) (w0 := w0) e
    obtain ⟨μ', hi'⟩ := h2 μ a w hi
    exact wp_loop_rounds N (adL (fun hb Q' hQ' => ih hg hb Q' hQ') hQ h1 μ' a w hi')
  | rangeFunc f ps x y _ _ => intro hg st K e; simp only [pU] at e; cases e
  | exit id => intro hg st K e Q hQ μ a w hi; exact wp_exit (hQ (.exit id) st e μ a w hi)
  | scope b _ => intro hg st K e; simp only [pU] at e; cases e
  | goto l => intro hg st K e; simp only [pU] at e; cases e
  | ret => intro hg st K e Q hQ μ a w hi; exact wp_ret (hQ .ret st e μ a w hi)
  | refuse s => intro hg st K e; simp only [pU] at e; cases e
def aw4 (ops : Array Oper) (o : Oper) (t : List V) : Prop := ∀ g want, o.guard = some (g, want) → ∃ d, xZ ops g = some d ∧ nth t d = .bool want
def nO (P : Program) (ops : Array Oper) (fin : List V → H → Prop) : Nat → Array Bool → List V → H → Prop
  | 0, listed, t, h => Region.ready .any ops listed = [] ∧ fin t h
  | n + 1, listed, t, h => (Region.ready .any ops listed = [] → fin t h) ∧
    ∀ i ∈ Region.ready .any ops listed, ∃ o, ops[i]? = some o ∧
      ((∃ v h1, aw4 ops o t ∧ tK P o t h v h1 ∧ nO P ops fin n (listed.setIfInBounds i true) (AU t o.dst v) h1) ∨
       (∃ g want d, o.guard = some (g, want) ∧ xZ ops g = some d ∧ (nth t d = .bool (!want) ∨ nth t d = V.no) ∧ nO P ops fin n (listed.setIfInBounds i true) (AU t o.dst V.no) h))
theorem arW {ops : Array Oper} {Q : Exit → Act → World → Prop} {μ0 : Mu} {h0 : H} {w0 : World} {fin : List V → H → Prop} (hQ : ∀ t h, fin t h → ∀ μ a w, Inv μ0 h0 w0 μ ⟨t, h⟩ a w → Q .normal a w) :
    ∀ (n : Nat) {listed : Array Bool} {t : List V} {h : H}, nO P ops fin n listed t h → ∀ {μ : Mu} {a : Act} {w : World}, Inv μ0 h0 w0 μ ⟨t, h⟩ a w → wpAny P .any ops Q n listed a w
  | 0, listed, t, h, hA, μ, a, w, hi => ⟨hA.1, hQ t h hA.2 μ a w hi⟩
  | n + 1, listed, t, h, hA, μ, a, w, hi => by
    refine ⟨fun h0 => hQ t h (hA.1 h0) μ a w hi, fun i hr => ?_⟩
    obtain ⟨o, ho, hh⟩ := hA.2 i hr
    unfold wpOp
    simp only [ho]
    rcases hh with ⟨v, h1, hg, hop, hA'⟩ | ⟨g, want, d, hg, hd, hn, hA'⟩
    · have hw : Region.wanted o (yielded ops a.tmps) = true := by
        cases hgd : o.guard with
        | none => unfold Region.wanted; rw [hgd]
        | some p =>
          obtain ⟨g, want⟩ := p
          obtain ⟨d, hd, hn⟩ := hg g want hgd
          exact (MB hi.slots hgd hd).1 hn
      rw [if_pos hw]
      left
      refine hop μ a w (fun x _ => ajB hi.slots x) hi.ev.rel _ Q fun cv w' hgo => ?_
      obtain ⟨μ', he, hcv⟩ := hgo
      exact arW hQ n hA' ⟨(hi.slots.pre he.pre).put hcv, by cases o.dst <;> exact hi.defers, hi.ev.trans he⟩
    · have hw := (MB hi.slots hg hd).2 hn
      rw [if_neg (by rw [hw]; simp)]
      exact arW hQ n hA' ⟨hi.slots.put (kK.no μ), by cases o.dst <;> exact hi.defers, hi.ev⟩
def Q5 (keep : List Nat) (k : Nat) (st' : St) (t : List V) (h : H) : Prop :=
  ∃ ids, ids.Nodup ∧ ids.take k = List.range k ∧ nN (V.ren ids) (mask keep 0 t) = some st'.t ∧ anE h ids = some st'.h
def rG (keep : List Nat) (n : Nat) (t : List V) : List V := (List.range n).map fun i => match keep.contains i with | true => nth t i | false => .any
theorem qH {keep : List Nat} {n : Nat} {t T0 : List V} (h : ∀ i ∈ keep, nth t i = nth T0 i) : rG keep n t = rG keep n T0 := by
  unfold rG
  refine List.map_congr_left fun i _ => ?_
  cases hc : keep.contains i with
  | true => exact h i (List.contains_iff_mem.mp hc)
  | false => rfl
theorem aw5 : ∀ {t : List V} {i : Nat} {v : V}, t[i]? = some v → nth t i = v
  | [], i, v, h => by simp at h
  | x :: t, 0, v, h => by simpa [nth] using h
  | x :: t, i + 1, v, h => by
    have h2 : t[i]? = some v := by simpa using h
    have h3 : nth t i = v := aw5 (t := t) (i := i) h2
    exact h3
theorem ajP : ∀ {t : List V} {i : Nat}, t.length ≤ i → nth t i = nth [] i
  | [], i, _ => rfl
  | x :: t, 0, h => by simp at h
  | x :: t, i + 1, h => by
    have h2 : t.length ≤ i := by simpa using h
    have h3 := ajP h2
    show nth t i = _
    rw [h3]
    cases i <;> rfl
theorem aF1 {keep : List Nat} {n : Nat} {t : List V} (hl : t.length = n) (i : Nat) : nth (rG keep n t) i = nth t i ∨ nth (rG keep n t) i = V.any := by
  by_cases hi : i < n
  · have e : (rG keep n t)[i]? = some (match keep.contains i with | true => nth t i | false => .any) := by
      unfold rG
      rw [List.getElem?_map, List.getElem?_range hi]
      rfl
    rw [aw5 e]
    cases keep.contains i with
    | true => exact .inl rfl
    | false => exact .inr rfl
  · left
    rw [ajP (t := rG keep n t) (by unfold rG; simp; omega), ajP (t := t) (by omega)]
theorem told {ops : Array Oper} {id : Nat} {Q : Exit → Act → World → Prop} {μ0 : Mu} {h0 : H} {w0 : World} {st st' : St} (keep : List Nat) (hm : P.follows .mixedOrders = true)
    {n : Nat} (hs : ops.size = n) {L0 : Array Bool} (hl0 : Array.replicate n false = L0) {T0 : List V} {H0 : H} {k : Nat} {keep0 : List Nat} {n0 : Nat} (hl : st.t.length = n0) (et : rG keep0 n0 st.t = T0) (eh : st.h = H0) (ek : H0.length = k) (hA : nO P ops (Q5 keep k st') n L0 T0 H0)
    (hQ : ∀ μ a w, Inv μ0 h0 w0 μ st' a w → Q .normal a w) {μ : Mu} {a : Act} {w : World} (hi : Inv μ0 h0 w0 μ st a w) : (Code.region id ops true).wp P Q a w := by
  subst hl0
  subst hs
  subst ek
  subst et
  subst eh
  refine wp_region_any hm ?_
  have hk0 : μ0.l.length ≤ st.h.length := by
    have h1 := hi.ev.pre.len
    have h2 := hi.ev.rel.len
    omega
  have hsl : OI μ (rG keep0 n0 st.t) a := by
    refine ⟨?_, fun i => ?_⟩
    · rw [hi.slots.1, hl]
      unfold rG
      simp
    · rcases aF1 (keep := keep0) hl i with h | h
      · rw [h]; exact hi.slots.2 i
      · rw [h]; trivial
  have hj : Inv μ0 h0 w0 μ ⟨rG keep0 n0 st.t, st.h⟩ a (w.drewN 1) := ⟨hsl, hi.defers, hi.ev.trans (Ev.drewN hi.ev.rel 1)⟩
  refine arW (fun t h hf μ' a' w' hi' => ?_) ops.size hA hj
  obtain ⟨ids, f1, f2, f3, f4⟩ := hf
  have hids : ids = List.range μ0.l.length ++ ids.drop μ0.l.length := by
    conv => lhs; rw [← List.take_append_drop μ0.l.length ids]
    congr 1
    have : ids.take μ0.l.length = (ids.take st.h.length).take μ0.l.length := by rw [List.take_take, Nat.min_eq_left hk0]
    rw [this, f2, List.take_range, Nat.min_eq_left hk0]
  obtain ⟨q1, q2⟩ := hi'.ev.pick hids f1 f4
  refine hQ (pick μ' ids) a' w' ⟨⟨?_, fun i => ?_⟩, hi'.defers, q1⟩
  · rw [hi'.slots.1, x9 f3, adK]
  · refine ajF q2 f3 ?_
    rcases adJ (keep := keep) (t := t) (n := 0) (i := i) with h3 | h3
    · rw [h3]; exact hi'.slots.2 i
    · rw [h3]; trivial
theorem AX {ty : Ty} (hty : tJ P ty) {fns : Fns} (hfn : ∀ f, FnT P f (fns f)) (hm : P.follows .mixedOrders = true) {f : FuncId} {fn : Func} {code : Code} (hf : P.funcs[f]? = some fn) (hb : fn.body = some code)
    (hname : (fn.name == "runtime.NumGoroutine") = false) {g : List V → H → T} (an : Ann) (gs : GsA) (hgs : qA P gs code)
    (H : ∀ vs h v h', (g vs h).run = some (v, h') → ∃ N, uQ ty fns an gs N fn vs h = some (v, h')) : FnT P f g := by
  intro vs h v h' hg μ w cvs hr hv
  left
  obtain ⟨N, hrun⟩ := H vs h v h' hg
  refine ⟨?_, ?_⟩
  · have hname' : ¬ (fn.name = "runtime.NumGoroutine") := by simpa using hname
    simp [callFunc, hf, hname', hb]
  · refine calls_of_wp hf hb ?_
    unfold uQ at hrun
    rw [hb] at hrun
    dsimp only at hrun
    rw [← hr.len] at hrun
    obtain ⟨hlen, hnth⟩ := YY (n := fn.ntmps - vs.length) hv
    have hinv : Inv μ h w μ ⟨vs ++ List.replicate (fn.ntmps - vs.length) V.no, h⟩ { tmps := ⟨cvs⟩ ++ Array.replicate (fn.ntmps - (⟨cvs⟩ : Array Value).size) undef, defers := [] } w := by
      refine ⟨⟨by simp [hlen], fun i => ?_⟩, rfl, Ev.refl hr⟩
      have := hnth i
      rw [Array.getD_eq_getD_getElem?]
      have e : ((⟨cvs⟩ : Array Value) ++ Array.replicate (fn.ntmps - (⟨cvs⟩ : Array Value).size) undef)[i]? = (cvs ++ List.replicate (fn.ntmps - vs.length) undef)[i]? := by
        rw [← Array.getElem?_toList, Array.toList_append, Array.toList_replicate]
        rw [show (⟨cvs⟩ : Array Value).size = vs.length from hlen.symm]
      rw [e]
      exact this
    have hend := ag4 (P := P) (fn := fn) (μ := μ) (h := h) (w := w) (v := v) (h' := h') hty
    refine aF0 hty hfn hm code hgs hrun _ (fun x st' hx μ' a' w' hi' => ?_) μ _ w hinv
    cases x with
    | norm => exact hend st' a' w' hx μ' hi'
    | exit id => cases hx
    | ret => exact hend st' a' w' hx μ' hi'
def tN (P : Program) (ops : Array Oper) (fin : List V → H → Prop) (n : Nat) (listed : Array Bool) (t : List V) (h : H) (i : Nat) : Prop := ∃ o, ops[i]? = some o ∧
      ((∃ v h1, aw4 ops o t ∧ tK P o t h v h1 ∧ nO P ops fin n (listed.setIfInBounds i true) (AU t o.dst v) h1) ∨
       (∃ g want d, o.guard = some (g, want) ∧ xZ ops g = some d ∧ (nth t d = .bool (!want) ∨ nth t d = V.no) ∧ nO P ops fin n (listed.setIfInBounds i true) (AU t o.dst V.no) h))
theorem Q7 {ops : Array Oper} {fin : List V → H → Prop} {n : Nat} {listed : Array Bool} {t : List V} {h : H} (rs : List Nat) (hr : Region.ready .any ops listed = rs) (hne : rs ≠ [])
    (hs : ∀ i ∈ rs, tN P ops fin n listed t h i) : nO P ops fin (n + 1) listed t h :=
  ⟨fun h0 => absurd (hr ▸ h0) hne, hr ▸ hs⟩
end
def uZ (n k : Nat) : Array Bool := ((List.range n).map fun i => k.testBit i).toArray
def uJ : List (Nat × V) → List V → List V
  | [], t => t
  | (d, v) :: l, t => uJ l (t.set d v)
def an5 (k : Nat) (l : List (Nat × Nat)) (v : Nat → V) : List (Nat × V) := l.filterMap fun p => match k.testBit p.1 with | true => some (p.2, v p.1) | false => none
theorem a09 {i a : Nat} (h : i ∈ [a]) : i = a := by simpa using h
theorem a1A {i a b : Nat} (h : i ∈ [a, b]) : i = a ∨ i = b := by simpa using h
theorem a1B {i a b c : Nat} (h : i ∈ [a, b, c]) : i = a ∨ i = b ∨ i = c := by simpa using h
theorem a1C {i a b c d : Nat} (h : i ∈ [a, b, c, d]) : i = a ∨ i = b ∨ i = c ∨ i = d := by simpa using h
theorem bM {ops : Array Oper} {fin : List V → H → Prop} {n : Nat} {listed : Array Bool} {t : List V} {h : H} {a : Nat} (ha : tN Try.prog ops fin n listed t h a) (hr : Region.ready .any ops listed = [a] := by kernel_rfl) : nO Try.prog ops fin (n + 1) listed t h := Q7 [a] hr (by simp) fun i hi => by
  obtain rfl := a09 hi
  exact ha
theorem bF {ops : Array Oper} {fin : List V → H → Prop} {n : Nat} {listed : Array Bool} {t : List V} {h : H} {a b : Nat} (ha : tN Try.prog ops fin n listed t h a) (hb : tN Try.prog ops fin n listed t h b) (hr : Region.ready .any ops listed = [a, b] := by kernel_rfl) : nO Try.prog ops fin (n + 1) listed t h := Q7 [a, b] hr (by simp) fun i hi => by
  rcases a1A hi with rfl | rfl
  · exact ha
  · exact hb
theorem bH {ops : Array Oper} {fin : List V → H → Prop} {n : Nat} {listed : Array Bool} {t : List V} {h : H} {a b c : Nat} (ha : tN Try.prog ops fin n listed t h a) (hb : tN Try.prog ops fin n listed t h b) (hc : tN Try.prog ops fin n listed t h c) (hr : Region.ready .any ops listed = [a, b, c] := by kernel_rfl) : nO Try.prog ops fin (n + 1) listed t h := Q7 [a, b, c] hr (by simp) fun i hi => by
  rcases a1B hi with rfl | rfl | rfl
  · exact ha
  · exact hb
  · exact hc
theorem iI {ops : Array Oper} {fin : List V → H → Prop} {n : Nat} {listed : Array Bool} {t : List V} {h : H} {a b c d : Nat} (ha : tN Try.prog ops fin n listed t h a) (hb : tN Try.prog ops fin n listed t h b) (hc : tN Try.prog ops fin n listed t h c) (hd : tN Try.prog ops fin n listed t h d) (hr : Region.ready .any ops listed = [a, b, c, d] := by kernel_rfl) : nO Try.prog ops fin (n + 1) listed t h := Q7 [a, b, c, d] hr (by simp) fun i hi => by
  rcases a1C hi with rfl | rfl | rfl | rfl
  · exact ha
  · exact hb
  · exact hc
  · exact hd
def iG (o : Oper) : Op × Option Tmp × Option (Nat × Bool) := (o.op, o.dst, o.guard)
def GuardAt (ops : Array Oper) (t : List V) : Option (Nat × Bool) → Prop
  | none => True
  | some (g, want) => ∃ d, xZ ops g = some d ∧ nth t d = .bool want
theorem aw6 {ops : Array Oper} {fin : List V → H → Prop} {n : Nat} {listed l1 : Array Bool} {t t1 : List V} {h h1 : H} {i : Nat} {op : Op} {d : Option Tmp} {v : V} {fns : Fns} (gd : Option (Nat × Bool)) (hfn : ∀ f, FnT Try.prog f (fns f))
    (hop : (ops[i]?).map iG = some (op, d, gd)) (hg : GuardAt ops t gd) (e : ZY ty fns .plain t h op (fun v h => some (v, h)) = some (v, h1)) (hl : listed.setIfInBounds i true = l1) (ht : AU t d v = t1)
    (hA : nO Try.prog ops fin n l1 t1 h1) : tN Try.prog ops fin n listed t h i := by
  rw [Option.map_eq_some_iff] at hop
  obtain ⟨o, ho, he⟩ := hop
  unfold iG at he
  simp only [Prod.mk.injEq] at he
  obtain ⟨a, b, c⟩ := he
  obtain ⟨v', h', e1, e2, _⟩ := step_ok abV hfn a e
  cases e1
  subst hl
  refine ⟨o, ho, .inl ⟨v, h1, fun g want hgd => ?_, e2, ?_⟩⟩
  · rw [c] at hgd
    subst hgd
    exact hg
  · rw [b, ht]
    exact hA
theorem aA {ops : Array Oper} {fin : List V → H → Prop} {n : Nat} {listed l1 : Array Bool} {t t1 : List V} {h h1 : H} {i : Nat} {op : Op} {d : Option Tmp} {v : V} {fns : Fns} (hfn : ∀ f, FnT Try.prog f (fns f))
    (hop : (ops[i]?).map iG = some (op, d, none)) (hA : nO Try.prog ops fin n l1 t1 h1) (e : ZY ty fns .plain t h op (fun v h => some (v, h)) = some (v, h1) := by kernel_rfl) (hl : listed.setIfInBounds i true = l1 := by kernel_rfl) (ht : AU t d v = t1 := by kernel_rfl) : tN Try.prog ops fin n listed t h i := aw6 none hfn hop trivial e hl ht hA
theorem bK {c : Bool} {ops : Array Oper} {fin : List V → H → Prop} {n : Nat} {listed l1 : Array Bool} {t t1 : List V} {h h1 : H} {i : Nat} {op : Op} {d : Option Tmp} {v : V} {fns : Fns} (hfn : ∀ f, FnT Try.prog f (fns f))
    (hop : (ops[i]?).map iG = some (op, d, none)) (hc : c = true) (hA : nO Try.prog ops fin n l1 t1 h1) (e : ZY ty fns .plain t h op (fun v h => some (v, h)) = (match (generalizing := false) c with | true => some (v, h1) | false => none) := by kernel_rfl) (hl : listed.setIfInBounds i true = l1 := by kernel_rfl) (ht : AU t d v = t1 := by kernel_rfl) : tN Try.prog ops fin n listed t h i := aw6 none hfn hop trivial (by rw [e, hc]) hl ht hA
def yU : Code → Nat → Option (Array Oper)
  | .region i ops _, id => if i = id then some ops else none
  | .seq a b, id => match yU a id with | some x => some x | none => yU b id
  | .cond _ a b, id => match yU a id with | some x => some x | none => yU b id
  | .block _ b, id => yU b id
  | .loop b, id => yU b id
  | _, _ => none
def codeOf (fn : Func) : Code := fn.body.getD .skip
def jL : Code → List (Nat × Array Oper × Bool)
  | .region i ops d => [(i, ops, d)]
  | .seq a b => jL a ++ jL b
  | .cond _ a b => jL a ++ jL b
  | .block _ b => jL b
  | .loop b => jL b
  | _ => []
theorem qJ {P : Program} {gs : GsA} : ∀ c : Code, (∀ p ∈ jL c, ∀ g, gs p.1 = some g → ab9 P p.1 p.2.1 p.2.2 g) → qA P gs c := by
  intro c
  induction c with
  | region i ops d =>
    intro h
    show match gs i with | some g => ab9 P i ops d g | none => True
    cases hg : gs i with
    | none => trivial
    | some g => exact h (i, ops, d) (by simp [jL]) g hg
  | seq a b iha ihb => intro h; exact ⟨iha fun p hp => h p (by simp [jL, hp]), ihb fun p hp => h p (by simp [jL, hp])⟩
  | cond x a b iha ihb => intro h; exact ⟨iha fun p hp => h p (by simp [jL, hp]), ihb fun p hp => h p (by simp [jL, hp])⟩
  | block i b ih => intro h; exact ih fun p hp => h p (by simpa [jL] using hp)
  | loop b ih => intro h; exact ih fun p hp => h p (by simpa [jL] using hp)
  | _ => intro _; trivial
abbrev oM (fn : Func) (k : Nat) : X → St → Option (V × H) := fun x st => match x with | .exit _ => none | _ => finish ty fn k st
abbrev adT {R : Type} (fns : Fns) (an : Ann) (gs : GsA) (N k : Nat) (c : Code) (K : X → St → Option R) : X → St → Option R := fun x st => match x with | .norm => pU ty fns an gs N k c st K | x => K x st
def Bel (B : Int) (x : Nat) : Prop := ∃ s m e, FloatKind.f32.format.read x = .number s m e ∧ (m = 0 ∨ e + (m.log2 : Int) < B)
theorem Bel.mono {A B : Int} {x : Nat} (h : Bel A x) (hAB : A ≤ B) : Bel B x := by
  obtain ⟨s, m, e, h, h2⟩ := h
  exact ⟨s, m, e, h, by omega⟩
theorem aNX {m n : Nat} (hm : m ≠ 0) (hn : n ≠ 0) : (m * n).log2 ≤ m.log2 + n.log2 + 1 := by
  have h1 : m < 2 ^ (m.log2 + 1) := Nat.lt_log2_self
  have h2 : n < 2 ^ (n.log2 + 1) := Nat.lt_log2_self
  have h3 : m * n < 2 ^ (m.log2 + n.log2 + 2) := by
    rw [show m.log2 + n.log2 + 2 = (m.log2 + 1) + (n.log2 + 1) by omega, Nat.pow_add]
    exact Nat.mul_lt_mul'' h1 h2
  have := (Nat.log2_lt (Nat.mul_ne_zero hm hn)).2 h3
  omega
theorem yH (s : Bool) (m k : Nat) : (Ieee.signed s m k).natAbs = m * 2 ^ k := by
  unfold Ieee.signed
  cases s
  · rw [if_neg (by decide), Nat.shiftLeft_eq]; exact Int.natAbs_natCast _
  · rw [if_pos rfl, Nat.shiftLeft_eq, Int.natAbs_neg]; exact Int.natAbs_natCast _
def oU (B : Int) (x : Nat) : Prop := ∃ s m e, Ieee.double.read x = .number s m e ∧ (m = 0 ∨ e + (m.log2 : Int) < B)
theorem oU.mono {A B : Int} {x : Nat} (h : oU A x) (hAB : A ≤ B) : oU B x := by
  obtain ⟨s, m, e, h, h2⟩ := h
  exact ⟨s, m, e, h, by omega⟩
theorem MK {s : Bool} {m : Nat} {p B : Int} (h : m = 0 ∨ p + (m.log2 : Int) < B) (h1 : -1000 ≤ B) (h2 : B ≤ 1000) : oU (B + 1) (Ieee.double.nearest s m p) := by
  obtain ⟨r, h3, h4⟩ := AV Ieee.double s m p B (by show (-1074 : Int) + 52 ≤ B; omega) h
  have h4 : r ≤ (B - (-1074) - 52 + 1).toNat * 4503599627370496 := h4
  rw [h3]
  obtain ⟨m', e', h5, h6, _⟩ := YZ s r (B - (-1074) - 52 + 1).toNat h4 (by omega)
  exact ⟨s, m', e', h5, by omega⟩
theorem Q8 {A B : Int} {x y : Nat} (hx : oU A x) (hy : oU B y) (h1 : -1000 ≤ A + B) (h2 : A + B ≤ 1000) : oU (A + B + 1) (fop .mul .f64 x y) := by
  obtain ⟨s, m, i, hx, hm⟩ := hx
  obtain ⟨t, n, j, hy, hn⟩ := hy
  rw [ajI hx hy]
  refine MK ?_ h1 h2
  by_cases m0 : m = 0
  · left; rw [m0, Nat.zero_mul]
  by_cases n0 : n = 0
  · left; rw [n0, Nat.mul_zero]
  right
  have := aNX m0 n0
  omega
theorem aNY {s t : Bool} {m n : Nat} {i j B : Int} (hm : m = 0 ∨ i + (m.log2 : Int) < B) (hn : n = 0 ∨ j + (n.log2 : Int) < B) :
    (Ieee.signed s m (i - min i j).toNat + Ieee.signed t n (j - min i j).toNat).natAbs = 0 ∨ min i j + (((Ieee.signed s m (i - min i j).toNat + Ieee.signed t n (j - min i j).toNat).natAbs).log2 : Int) < B + 1 := by
  generalize hbase : min i j = base
  generalize hT : (Ieee.signed s m (i - base).toNat + Ieee.signed t n (j - base).toNat).natAbs = T
  by_cases T0 : T = 0
  · exact .inl T0
  right
  have hle : T ≤ m * 2 ^ (i - base).toNat + n * 2 ^ (j - base).toNat := by
    rw [← hT, ← yH s, ← yH t]
    exact Int.natAbs_add_le _ _
  have hbB : base < B := by
    rcases hm with h | h
    · rcases hn with k | k
      · subst h; subst k; omega
      · omega
    · omega
  have key : ∀ (q : Nat) (l : Int), base ≤ l → (q = 0 ∨ l + (q.log2 : Int) < B) → q * 2 ^ (l - base).toNat < 2 ^ (B - base).toNat := by
    intro q l hl h
    by_cases hq : q = 0
    · subst hq
      rw [Nat.zero_mul]
      exact Nat.pow_pos (by decide)
    · have h := h.resolve_left hq
      have h3 : q < 2 ^ (q.log2 + 1) := Nat.lt_log2_self
      refine Nat.lt_of_lt_of_le (Nat.mul_lt_mul_of_pos_right h3 (Nat.pow_pos (by decide))) ?_
      rw [← Nat.pow_add]
      exact Nat.pow_le_pow_right (by decide) (by omega)
  have k1 := key m i (by omega) hm
  have k2 := key n j (by omega) hn
  have h3 : T < 2 ^ ((B - base).toNat + 1) := by
    rw [Nat.pow_succ]
    omega
  have := (Nat.log2_lt T0).2 h3
  omega
theorem Q9 {B : Int} {x y : Nat} (hx : oU B x) (hy : oU B y) (h1 : -1000 ≤ B) (h2 : B ≤ 999) : oU (B + 2) (fop .sub .f64 x y) := by
  obtain ⟨s, m, i, hx, hm⟩ := hx
  obtain ⟨t, n, j, hy, hn⟩ := hy
  have e : ∃ b : Bool, fop .sub .f64 x y = Ieee.double.nearest b (Ieee.signed s m (i - min i j).toNat + Ieee.signed (!t) n (j - min i j).toNat).natAbs (min i j) := by
    unfold fop floatBits
    show ∃ b : Bool, (Ieee.double.sub x y).getD _ = _
    unfold Ieee.Format.sub
    rw [hx, hy]
    exact ⟨_, rfl⟩
  obtain ⟨b, e⟩ := e
  rw [e, show B + 2 = (B + 1) + 1 by omega]
  exact MK (aNY hm hn) (by omega) (by omega)
theorem aAC {y : Nat} (h : oU 127 y) : ∃ r, fF .f64 y .f32 = some r := by
  obtain ⟨s, m, e, h1, h2⟩ := h
  exact JF (s := s) (m := m) (e := e) h1 h2
theorem aF2 {x : Nat} {s : Bool} {m : Nat} {e : Int} (h : Ieee.double.read x = .number s m e) : Ieee.double.read (Op.negFloat .f64 x) = .number (!s) m e := by
  have h1 : Op.negFloat .f64 x % 9223372036854775808 = x % 9223372036854775808 := by
    unfold Op.negFloat
    rw [show (9223372036854775808 : Nat) = 2 ^ 63 by decide, Nat.xor_mod_two_pow]
    show x % 2 ^ 63 ^^^ 2 ^ 63 % 2 ^ 63 = _
    simp
  have h2 : (Op.negFloat .f64 x / 9223372036854775808 % 2 == 1) = !(x / 9223372036854775808 % 2 == 1) := by
    have e1 : ∀ y : Nat, (y / 9223372036854775808 % 2 == 1) = y.testBit 63 := by
      intro y
      rw [Nat.testBit_eq_decide_div_mod_eq, show (2 : Nat) ^ 63 = 9223372036854775808 by decide]
      by_cases hy : y / 9223372036854775808 % 2 = 1 <;> simp [hy]
    rw [e1, e1]
    unfold Op.negFloat
    rw [Nat.testBit_xor]
    have h63 : Nat.testBit (2 ^ (FloatKind.f64.format.exponentBits + FloatKind.f64.format.fractionBits)) 63 = true := by decide +kernel
    rw [h63]
    cases x.testBit 63 <;> rfl
  have c1 : Ieee.double.signWeight = 9223372036854775808 := by decide
  unfold Ieee.Format.read at h ⊢
  rw [c1] at h ⊢
  rw [h1, h2]
  generalize (x / 9223372036854775808 % 2 == 1) = b at *
  generalize x % 9223372036854775808 = r at *
  dsimp only at h ⊢
  split at h
  · rename_i hr
    rw [if_pos hr]
    cases h
    rfl
  · rename_i hr
    rw [if_neg hr]
    split at h
    · rename_i hr2
      rw [if_pos hr2]
      cases h
      rfl
    · split at h <;> cases h
theorem aF3 {B : Int} {x : Nat} (h : oU B x) : oU B (I5 .f64 x) := by
  obtain ⟨s, m, e, hx, hm⟩ := h
  refine ⟨!s, m, e, ?_, hm⟩
  unfold I5
  rw [iV (by rw [ab6]; unfold isN; show (Ieee.double.read x).isNaN = false; rw [hx]; rfl)]
  exact aF2 hx
theorem adU (s : Bool) {m : Nat} {p : Int} (hp : -1074 ≤ p) (hm : m < 9007199254740992) (hb : m = 0 ∨ p + (m.log2 : Int) ≤ 1023) :
    ∃ m' p', Ieee.double.read (Ieee.double.nearest s m p) = .number s m' p' ∧ -1074 ≤ p' ∧ p' ≤ p ∧ m' = m * 2 ^ (p - p').toNat ∧ m' < 9007199254740992 := by
  by_cases m0 : m = 0
  · subst m0
    have hz : Ieee.double.nearest s 0 p = Ieee.double.word s 0 := by unfold Ieee.Format.nearest; rw [if_pos rfl]
    rw [hz]
    refine ⟨0, -1074, by cases s <;> decide +kernel, by decide, hp, by simp, by decide⟩
  have hb := hb.resolve_left m0
  have hL : m.log2 < 53 := (Nat.log2_lt m0).2 hm
  unfold Ieee.Format.nearest
  rw [if_neg m0]
  have c1 : Ieee.double.signWeight = 9223372036854775808 := by decide
  have c2 : Ieee.double.binade = 4503599627370496 := by decide
  have c3 : Ieee.double.infRung = 9218868437227405312 := by decide
  have c4 : Ieee.double.leastPlace = -1074 := by decide
  have c5 : Ieee.double.fractionBits = 52 := by decide
  rw [c2, c3, c4, c5]
  dsimp only
  generalize hlast : max (p + (m.log2 : Int) - ((52 : Nat) : Int)) (-1074) = last
  have hl1 : last ≤ p := by omega
  have hl2 : -1074 ≤ last := by omega
  rw [show (last - p).toNat = 0 by omega, uH, Nat.shiftLeft_eq]
  have hk : m * 2 ^ (p - last).toNat < 9007199254740992 := by
    have h1 : m < 2 ^ (m.log2 + 1) := Nat.lt_log2_self
    have h2 : m * 2 ^ (p - last).toNat < 2 ^ (m.log2 + 1) * 2 ^ (p - last).toNat := Nat.mul_lt_mul_of_pos_right h1 (Nat.pow_pos (by decide))
    rw [← Nat.pow_add] at h2
    exact Nat.lt_of_lt_of_le h2 (Nat.le_trans (Nat.pow_le_pow_right (by decide) (show m.log2 + 1 + (p - last).toNat ≤ 53 by omega)) (by decide))
  have hk2 : last = -1074 ∨ 4503599627370496 ≤ m * 2 ^ (p - last).toNat := by
    by_cases h : last = -1074
    · exact .inl h
    · right
      have h1 : 2 ^ m.log2 ≤ m := Nat.log2_self_le m0
      have h2 : 2 ^ m.log2 * 2 ^ (p - last).toNat ≤ m * 2 ^ (p - last).toNat := Nat.mul_le_mul_right _ h1
      rw [← Nat.pow_add, show m.log2 + (p - last).toNat = 52 by omega] at h2
      exact Nat.le_trans (by decide) h2
  generalize hK : m * 2 ^ (p - last).toNat = K at hk hk2
  refine ⟨K, last, ?_, hl2, hl1, hK.symm, hk⟩
  generalize hl : (last - -1074).toNat = l
  have hl3 : l ≤ 2045 := by omega
  have hle : l * 4503599627370496 + K ≤ 9218868437227405312 := by clear hl hl1 hl2 hk2 hK hlast hb hL; omega
  have hmin : min (l * 4503599627370496 + K) 9218868437227405312 = l * 4503599627370496 + K := Nat.min_eq_left hle
  rw [hmin]
  unfold Ieee.Format.read Ieee.Format.word
  rw [c1, c2, c3, c4]
  dsimp only
  clear hl1 hK hlast hb hL hmin
  generalize hR : l * 4503599627370496 + K = R at hle ⊢
  have hmm : (if s = true then 9223372036854775808 + R else R) % 9223372036854775808 = R := by split <;> omega
  have hs : ((if s = true then 9223372036854775808 + R else R) / 9223372036854775808 % 2 == 1) = s := by
    cases s
    · rw [if_neg (by decide), Nat.div_eq_of_lt (by omega)]; rfl
    · rw [if_pos rfl, Nat.add_div_left _ (by decide), Nat.div_eq_of_lt (by omega)]; rfl
  rw [hmm, hs]
  by_cases hc : 4503599627370496 ≤ K
  · rw [if_neg (by omega), if_pos (by omega)]
    have e1 : R / 4503599627370496 = l + 1 := by omega
    have e2 : R % 4503599627370496 = K - 4503599627370496 := by omega
    rw [e1, e2, show 4503599627370496 + (K - 4503599627370496) = K by omega, show (-1074 : Int) + ((l + 1 - 1 : Nat) : Int) = last by omega]
  · have hl0 : l = 0 := by omega
    rw [if_pos (by omega), show R = K by omega, show last = -1074 by omega]
def Zv (s : Bool) (m : Nat) (p : Int) : Int := Ieee.signed s m (p + 1074).toNat
theorem arX (s : Bool) (m a b : Nat) : Ieee.signed s m (a + b) = Ieee.signed s m a * ((2 ^ b : Nat) : Int) := by
  unfold Ieee.signed
  rw [Nat.shiftLeft_eq, Nat.shiftLeft_eq, Nat.pow_add, ← Nat.mul_assoc]
  cases s
  · rw [if_neg (by decide), if_neg (by decide)]; exact Int.natCast_mul _ _
  · rw [if_pos rfl, if_pos rfl, Int.natCast_mul, Int.neg_mul]
theorem mW {s : Bool} {m : Nat} {p base : Int} (h1 : base ≤ p) (h2 : -1074 ≤ base) : Zv s m p = Ieee.signed s m (p - base).toNat * ((2 ^ (base + 1074).toNat : Nat) : Int) := by
  unfold Zv
  rw [← arX, show (p - base).toNat + (base + 1074).toNat = (p + 1074).toNat by omega]
theorem adV (s : Bool) {m : Nat} {p q : Int} (h1 : q ≤ p) (h2 : -1074 ≤ q) : Zv s (m * 2 ^ (p - q).toNat) q = Zv s m p := by
  unfold Zv Ieee.signed
  rw [Nat.shiftLeft_eq, Nat.shiftLeft_eq, Nat.mul_assoc, ← Nat.pow_add, show (p - q).toNat + (q + 1074).toNat = (p + 1074).toNat by omega]
theorem aF4 (s : Bool) {m : Nat} {p : Int} (hp : -1074 ≤ p) (hm : m < 9007199254740992) (hb : m = 0 ∨ p + (m.log2 : Int) ≤ 1023) :
    ∃ m' p', Ieee.double.read (Ieee.double.nearest s m p) = .number s m' p' ∧ -1074 ≤ p' ∧ p' ≤ p ∧ Zv s m' p' = Zv s m p := by
  obtain ⟨m', p', h1, h2, h3, h4, _⟩ := adU s hp hm hb
  exact ⟨m', p', h1, h2, h3, by rw [h4]; exact adV s h3 h2⟩
theorem rX {a b c : Int} (h : 0 < c) : compare (a * c) (b * c) = compare a b := by
  rcases Int.lt_trichotomy a b with h1 | h1 | h1
  · rw [Int.compare_eq_lt.2 h1, Int.compare_eq_lt.2 (Int.mul_lt_mul_of_pos_right h1 h)]
  · subst h1
    rw [Int.compare_eq_eq.2 rfl, Int.compare_eq_eq.2 rfl]
  · rw [Int.compare_eq_gt.2 h1, Int.compare_eq_gt.2 (Int.mul_lt_mul_of_pos_right h1 h)]
theorem acA {x y : Nat} {s t : Bool} {m n : Nat} {i j : Int} (hx : Ieee.double.read x = .number s m i) (hy : Ieee.double.read y = .number t n j) (hi : -1074 ≤ i) (hj : -1074 ≤ j) :
    FloatKind.f64.format.order x y = some (compare (Zv s m i) (Zv t n j)) := by
  show Ieee.double.order x y = _
  unfold Ieee.Format.order
  rw [hx, hy]
  unfold Ieee.Datum.order
  dsimp only
  rw [mW (show min i j ≤ i by omega) (by omega), mW (show min i j ≤ j by omega) (by omega), rX]
  exact Int.natCast_pos.2 (Nat.pow_pos (by decide))
theorem kT {x : Nat} {s : Bool} {m : Nat} {e : Int} (h : Ieee.double.read x = .number s m e) : -1074 ≤ e ∧ m < 9007199254740992 ∧ (m < 4503599627370496 → e = -1074) ∧ e ≤ 971 := by
  unfold Ieee.Format.read at h
  have c1 : Ieee.double.signWeight = 9223372036854775808 := by decide
  have c2 : Ieee.double.binade = 4503599627370496 := by decide
  have c3 : Ieee.double.infRung = 9218868437227405312 := by decide
  have c4 : Ieee.double.leastPlace = -1074 := by decide
  rw [c1, c2, c3, c4] at h
  dsimp only at h
  split at h
  · cases h
    omega
  · split at h
    · cases h
      omega
    · split at h <;> cases h
def qK (way : Ieee.Toward) (x : Nat) : Nat := match FloatKind.f64.decode x with
  | .nan _ _ => rC .f64
  | .number s m p => FloatKind.f64.encode ((Ieee.Datum.number s m p).integral way)
  | .infinity s => FloatKind.f64.encode ((Ieee.Datum.infinity s).integral way)
def O3 (way : Ieee.Toward) : GT := fun vs h => match vs, h with | [.fl .f64 x], [] => .ret (.fl .f64 (qK way x)) [] | _, _ => .no
theorem aAD {way : Ieee.Toward} {b : Nat} (h : isN .f64 b = true) : qK way (canon .f64 b) = rC .f64 := by
  rw [oL h]
  unfold qK
  have : FloatKind.f64.decode (rC .f64) = .nan false 2251799813685248 := by decide +kernel
  rw [this]
theorem aF5 {P : Program} {f : FuncId} {fn : Func} {nm : String} {way : Ieee.Toward} (hf : P.funcs[f]? = some fn) (hname : (fn.name == "runtime.NumGoroutine") = false) (hb : fn.body.isNone = true) (hn : Extern.findNext fn = none) (he : Extern.find fn = some (Extern.MathFloor.toIntegral nm way)) : FnT P f (O3 way) := by
  refine ajG hf hname hb hn he fun vs hp v h' e => ?_
  unfold O3 at e
  split at e
  case h_2 => exact (T.no_inv e).elim
  obtain ⟨rfl, rfl⟩ := T.ret_inv e
  refine ⟨rfl, rfl, fun μ cvs w hv => ?_⟩
  obtain ⟨c, rfl, b, rfl, rfl⟩ := ab8 hv
  have hrun : (Extern.MathFloor.toIntegral nm way) ⟨[Value.float .f64 b]⟩ = (match FloatKind.f64.decode b with
      | .nan s t =>
        if FloatKind.f64.format.quiet t = t then pure (.float .f64 b) else do
        let kept ← choose (.extern "math.Floor,Ceil,Trunc,RoundToEven.signallingNaN kept" 2)
        pure (.float .f64 (if kept == 1 then b else FloatKind.f64.encode (.nan s (FloatKind.f64.format.quiet t))))
      | d => pure (.float .f64 (FloatKind.f64.encode (d.integral way)))) := rfl
  rw [hrun]
  cases e : FloatKind.f64.decode b with
  | number s m p =>
    have hnb : isN .f64 b = false := by unfold isN; rw [e]; rfl
    refine ⟨.float .f64 (FloatKind.f64.encode ((Ieee.Datum.number s m p).integral way)), 0, rfl, _, rfl, ?_⟩
    rw [iV hnb]
    unfold qK
    rw [e]
    exact iV (pV .f64 (d := (Ieee.Datum.number s m p).integral way) rfl)
  | infinity s =>
    have hnb : isN .f64 b = false := by unfold isN; rw [e]; rfl
    refine ⟨.float .f64 (FloatKind.f64.encode ((Ieee.Datum.infinity s).integral way)), 0, rfl, _, rfl, ?_⟩
    rw [iV hnb]
    unfold qK
    rw [e]
    exact iV (pV .f64 (d := (Ieee.Datum.infinity s).integral way) rfl)
  | nan s t =>
    have hnb : isN .f64 b = true := by unfold isN; rw [e]; rfl
    rw [aAD hnb]
    dsimp only
    split
    · exact ⟨.float .f64 b, 0, rfl, _, rfl, oL hnb⟩
    · rename_i hq
      refine ⟨_, 1, rfl, _, rfl, oL ?_⟩
      split
      · exact hnb
      · have hnz : (FloatKind.f64.decode (FloatKind.f64.encode (.nan s (FloatKind.f64.format.quiet t)))).isNaN = true := by
          show (Ieee.double.read (Ieee.double.word s (9218868437227405312 + (t ||| 2251799813685248) % 4503599627370496))).isNaN = true
          have hlo : 2251799813685248 ≤ (t ||| 2251799813685248) % 4503599627370496 := by
            rw [show (4503599627370496 : Nat) = 2 ^ 52 by decide, Nat.or_mod_two_pow]
            exact Nat.right_le_or
          have hhi : (t ||| 2251799813685248) % 4503599627370496 < 4503599627370496 := Nat.mod_lt _ (by decide)
          generalize (t ||| 2251799813685248) % 4503599627370496 = q at hlo hhi
          have c1 : Ieee.double.signWeight = 9223372036854775808 := by decide
          have c2 : Ieee.double.binade = 4503599627370496 := by decide
          have c3 : Ieee.double.infRung = 9218868437227405312 := by decide
          unfold Ieee.Format.read Ieee.Format.word
          rw [c1, c2, c3]
          have hmm : (if s = true then 9223372036854775808 + (9218868437227405312 + q) else 9218868437227405312 + q) % 9223372036854775808 = 9218868437227405312 + q := by split <;> omega
          dsimp only
          rw [hmm, if_neg (by omega), if_neg (by omega), if_neg (by omega)]
          rfl
        exact hnz
theorem aYI (s : Bool) (n drop : Nat) : Ieee.Toward.zero.cut s n drop = n / 2 ^ drop := by
  unfold Ieee.Toward.cut
  simp only [Nat.one_shiftLeft, Bool.toNat_false, Nat.add_zero]
  by_cases h : drop ≤ n.log2 + 2
  · rw [Nat.min_eq_left h]
  · rw [Nat.min_eq_right (by omega)]
    have h1 : n < 2 ^ (n.log2 + 1) := Nat.lt_log2_self
    rw [Nat.div_eq_of_lt (Nat.lt_of_lt_of_le h1 (Nat.pow_le_pow_right (by decide) (by omega))), Nat.div_eq_of_lt (Nat.lt_of_lt_of_le h1 (Nat.pow_le_pow_right (by decide) (by omega)))]
theorem ahB {x : Nat} {s : Bool} {m : Nat} {p : Int} (hx : Ieee.double.read x = .number s m p) (hp : p ≤ 0) :
    floatToIntVal .f64 x .i64 = some (Ieee.signed s (m / 2 ^ (-p).toNat) 0) := by
  have hb := (kT hx).2.1
  have hq : m / 2 ^ (-p).toNat < 9007199254740992 := Nat.lt_of_le_of_lt (Nat.div_le_self _ _) hb
  unfold floatToIntVal
  have hd : FloatKind.f64.decode x = .number s m p := hx
  rw [hd]
  have ht : (Ieee.Datum.number s m p).toInt .zero = some (Ieee.signed s (m / 2 ^ (-p).toNat) 0) := by
    unfold Ieee.Datum.toInt Ieee.Datum.integral
    dsimp only
    rw [aYI, show p.toNat = 0 by omega, Nat.shiftLeft_zero]
  rw [ht]
  dsimp only
  rw [if_pos]
  generalize m / 2 ^ (-p).toNat = q at hq
  unfold Ieee.signed
  rw [Nat.shiftLeft_zero]
  have h1 : IntKind.i64.min = -9223372036854775808 := by decide
  have h2 : IntKind.i64.max = 9223372036854775807 := by decide
  rw [h1, h2]
  split <;> omega
theorem aAE {x : Nat} {s : Bool} {m : Nat} {p : Int} (hx : Ieee.double.read x = .number s m p) (hp : p < 0) :
    qK .zero x = Ieee.double.nearest s (m / 2 ^ (-p).toNat) 0 := by
  unfold qK
  have hd : FloatKind.f64.decode x = .number s m p := hx
  rw [hd]
  show Ieee.double.write ((Ieee.Datum.number s m p).integral .zero) = _
  unfold Ieee.Datum.integral
  dsimp only
  rw [aYI, show p.toNat = 0 by omega, Nat.shiftLeft_zero]
  rfl
theorem ahC (s : Bool) (q : Nat) : floatOfInt .f64 (Ieee.signed s q 0) = if q = 0 then 0 else Ieee.double.nearest s q 0 := by
  show Ieee.double.nearest (decide (Ieee.signed s q 0 < 0)) (Ieee.signed s q 0).natAbs 0 = _
  rw [yH, Nat.pow_zero, Nat.mul_one]
  by_cases hq : q = 0
  · subst hq
    rw [if_pos rfl]
    cases s <;> decide +kernel
  · rw [if_neg hq]
    congr 1
    unfold Ieee.signed
    rw [Nat.shiftLeft_zero]
    cases s
    · rw [if_neg (by decide)]; exact decide_eq_false (by omega)
    · rw [if_pos rfl]; exact decide_eq_true (by omega)
theorem aF6 {s : Bool} {q : Nat} (hq : q < 9007199254740992) : eqD (Ieee.double.nearest s q 0) 0 = decide (q = 0) := by
  obtain ⟨m', p', h1, h2, h3, h4⟩ := aF4 s (p := 0) (by decide) hq (by
    by_cases h : q = 0
    · exact .inl h
    · have := (Nat.log2_lt h).2 (show q < 2 ^ 53 by omega)
      exact .inr (by omega))
  have hz : Ieee.double.read 0 = .number false 0 (-1074) := by decide +kernel
  unfold eqD
  rw [acA h1 hz h2 (by decide), h4]
  have e0 : Zv false 0 (-1074) = 0 := by decide
  rw [e0]
  have hpos : ∀ k : Nat, (0 : Int) < ((2 ^ k : Nat) : Int) := fun k => Int.natCast_pos.2 (Nat.pow_pos (by decide))
  rw [mW (s := s) (m := q) (p := 0) (base := 0) (by decide) (by decide), show ((0 : Int) - 0).toNat = 0 from rfl]
  have hp := hpos ((0 : Int) + 1074).toNat
  generalize ((2 ^ ((0 : Int) + 1074).toNat : Nat) : Int) = c at hp
  rw [show compare (Ieee.signed s q 0 * c) 0 = compare (Ieee.signed s q 0 * c) (0 * c) by rw [Int.zero_mul], rX hp]
  by_cases h : q = 0
  · subst h
    cases s <;> decide
  · rw [decide_eq_false h]
    have hne : Ieee.signed s q 0 ≠ 0 := by
      intro h0
      have := congrArg Int.natAbs h0
      rw [yH] at this
      simp at this
      exact h this
    cases hc : compare (Ieee.signed s q 0) 0 with
    | eq => exact (hne (Int.compare_eq_eq.1 hc)).elim
    | lt => rfl
    | gt => rfl
theorem aF7 {x : Nat} {s : Bool} {m : Nat} {p : Int} (hx : Ieee.double.read x = .number s m p) (hp : p < 0) :
    ∃ w, floatToIntVal .f64 x .i64 = some w ∧ ∃ b n e, fop .sub .f64 x (floatOfInt .f64 w) = Ieee.double.nearest b n e ∧ LE1 n e ∧ (b = s ∨ n = 0) := by
  refine ⟨_, ahB hx (by omega), ?_⟩
  obtain ⟨hp0, hm, _⟩ := kT hx
  generalize hq : m / 2 ^ (-p).toNat = q
  have hqm : q ≤ m := by rw [← hq]; exact Nat.div_le_self _ _
  have hr : ∃ t m' p', Ieee.double.read (floatOfInt .f64 (Ieee.signed s q 0)) = .number t m' p' ∧ -1074 ≤ p' ∧ Zv t m' p' = Zv s q 0 := by
    rw [ahC]
    by_cases h0 : q = 0
    · rw [if_pos h0, h0]
      exact ⟨false, 0, -1074, by decide +kernel, by decide, by cases s <;> (unfold Zv Ieee.signed; simp)⟩
    · rw [if_neg h0]
      obtain ⟨m', p', h1, h2, h3, h4⟩ := aF4 s (m := q) (p := 0) (by decide) (by omega) (by
        have := (Nat.log2_lt h0).2 (show q < 2 ^ 53 by omega)
        exact .inr (by omega))
      exact ⟨s, m', p', h1, h2, h4⟩
  obtain ⟨t, m', p', h1, h2, h3⟩ := hr
  have e : fop .sub .f64 x (floatOfInt .f64 (Ieee.signed s q 0)) = Ieee.double.nearest (if Ieee.signed s m (p - min p p').toNat + Ieee.signed (!t) m' (p' - min p p').toNat = 0 then s && !t else decide (Ieee.signed s m (p - min p p').toNat + Ieee.signed (!t) m' (p' - min p p').toNat < 0)) (Ieee.signed s m (p - min p p').toNat + Ieee.signed (!t) m' (p' - min p p').toNat).natAbs (min p p') := by
    unfold fop floatBits
    show (Ieee.double.sub x _).getD _ = _
    unfold Ieee.Format.sub
    rw [hx, h1]
    rfl
  refine ⟨_, _, _, e, ?_⟩
  generalize hbase : min p p' = base
  generalize hT : Ieee.signed s m (p - base).toNat + Ieee.signed (!t) m' (p' - base).toNat = T
  have hneg : ∀ (b : Bool) (k u : Nat), Ieee.signed (!b) k u = - Ieee.signed b k u := by
    intro b k u
    unfold Ieee.signed
    cases b <;> simp
  have hZ : T * ((2 ^ (base + 1074).toNat : Nat) : Int) = Zv s m p - Zv s q 0 := by
    rw [← h3, mW (show base ≤ p by omega) (by omega), mW (show base ≤ p' by omega) (by omega), ← hT, hneg, Int.add_mul, Int.neg_mul]
    omega
  have hrem : Zv s m p - Zv s q 0 = Ieee.signed s (m % 2 ^ (-p).toNat) (p + 1074).toNat := by
    have hsplit : m = q * 2 ^ (-p).toNat + m % 2 ^ (-p).toNat := by rw [← hq, Nat.mul_comm]; exact (Nat.div_add_mod _ _).symm
    have e1 : q * 2 ^ ((0 : Int) + 1074).toNat = q * 2 ^ (-p).toNat * 2 ^ (p + 1074).toNat := by
      rw [Nat.mul_assoc, ← Nat.pow_add, show (-p).toNat + (p + 1074).toNat = ((0 : Int) + 1074).toNat by omega]
    have e2 : m * 2 ^ (p + 1074).toNat = q * 2 ^ (-p).toNat * 2 ^ (p + 1074).toNat + m % 2 ^ (-p).toNat * 2 ^ (p + 1074).toNat := by
      rw [← Nat.add_mul, ← hsplit]
    unfold Zv Ieee.signed
    rw [Nat.shiftLeft_eq, Nat.shiftLeft_eq, Nat.shiftLeft_eq, e1, e2]
    generalize q * 2 ^ (-p).toNat * 2 ^ (p + 1074).toNat = A
    generalize m % 2 ^ (-p).toNat * 2 ^ (p + 1074).toNat = B
    cases s
    · simp only [Bool.false_eq_true, if_false]; omega
    · simp only [if_true]; omega
  rw [hrem] at hZ
  have hlt : m % 2 ^ (-p).toNat < 2 ^ (-p).toNat := Nat.mod_lt _ (Nat.pow_pos (by decide))
  have habs : T.natAbs * 2 ^ (base + 1074).toNat = m % 2 ^ (-p).toNat * 2 ^ (p + 1074).toNat := by
    have := congrArg Int.natAbs hZ
    rw [Int.natAbs_mul, Int.natAbs_natCast, yH] at this
    exact this
  constructor
  · by_cases hT0 : T.natAbs = 0
    · exact .inl hT0
    right
    refine ⟨by omega, ?_⟩
    have h5 : m % 2 ^ (-p).toNat * 2 ^ (p + 1074).toNat < 2 ^ (-p).toNat * 2 ^ (p + 1074).toNat := Nat.mul_lt_mul_of_pos_right hlt (Nat.pow_pos (by decide))
    rw [← habs, ← Nat.pow_add, show (-p).toNat + (p + 1074).toNat = (-base).toNat + (base + 1074).toNat by omega, Nat.pow_add] at h5
    exact Nat.le_of_lt (Nat.lt_of_mul_lt_mul_right h5)
  · by_cases hT0 : T = 0
    · exact .inr (by rw [hT0]; rfl)
    left
    rw [if_neg hT0]
    have hpos : (0 : Int) < ((2 ^ (base + 1074).toNat : Nat) : Int) := Int.natCast_pos.2 (Nat.pow_pos (by decide))
    cases s
    · have : 0 ≤ T * ((2 ^ (base + 1074).toNat : Nat) : Int) := by
        rw [hZ]
        unfold Ieee.signed
        rw [if_neg (by decide)]
        exact Int.natCast_nonneg _
      have := Int.nonneg_of_mul_nonneg_left this hpos
      exact decide_eq_false (by omega)
    · have : T * ((2 ^ (base + 1074).toNat : Nat) : Int) ≤ 0 := by
        rw [hZ]
        unfold Ieee.signed
        rw [if_pos rfl]
        omega
      have : T ≤ 0 := by
        rcases Int.lt_or_le 0 T with h | h
        · have := Int.mul_pos h hpos
          omega
        · exact h
      exact decide_eq_true (by omega)
def adW (x : Nat) : Bool := FloatKind.f64.format.order (fop .sub .f64 x x) 0 == some .eq
theorem aF8 (x : Nat) : (FloatKind.f64.format.order (fop .sub .f64 x x) 0 != some .eq) = !adW x := rfl
theorem an6 {x : Nat} (h : adW x = true) : ∃ s m p, Ieee.double.read x = .number s m p := by
  have hq : isN .f64 (fop .sub .f64 x x) = false := by
    cases hn : isN .f64 (fop .sub .f64 x x) with
    | false => rfl
    | true =>
      unfold adW at h
      rw [pW (Or.inl hn)] at h
      exact absurd h (by decide)
  cases hd : Ieee.double.read x with
  | number s m p => exact ⟨s, m, p, rfl⟩
  | nan s f =>
    exfalso
    have : fop .sub .f64 x x = rC .f64 := by
      unfold fop floatBits
      show (Ieee.double.sub x x).getD _ = _
      unfold Ieee.Format.sub
      rw [hd]
      rfl
    rw [this, zS] at hq
    cases hq
  | infinity s =>
    exfalso
    have : fop .sub .f64 x x = rC .f64 := by
      unfold fop floatBits
      show (Ieee.double.sub x x).getD _ = _
      unfold Ieee.Format.sub
      rw [hd]
      cases s <;> rfl
    rw [this, zS] at hq
    cases hq
def smB (x : Nat) : Bool := match Ieee.double.read x with | .number _ _ p => decide (p < 0) | _ => false
theorem aw7 {x : Nat} (h : smB x = true) : ∃ s m p, Ieee.double.read x = .number s m p ∧ p < 0 := by
  unfold smB at h
  cases hd : Ieee.double.read x with
  | number s m p => rw [hd] at h; exact ⟨s, m, p, rfl, of_decide_eq_true h⟩
  | nan s f => rw [hd] at h; cases h
  | infinity s => rw [hd] at h; cases h
theorem adX {B : Int} {x : Nat} (h : oU B x) (hB : B ≤ 52) : smB x = true := by
  obtain ⟨s, m, e, hx, hm⟩ := h
  obtain ⟨h0, h1, h2, _⟩ := kT hx
  unfold smB
  rw [hx]
  refine decide_eq_true ?_
  rcases Nat.lt_or_ge m 4503599627370496 with h | h
  · have := h2 h
    omega
  · have := hm.resolve_left (by omega)
    have hl : 52 ≤ m.log2 := (Nat.le_log2 (by omega)).2 (show 2 ^ 52 ≤ m by omega)
    omega
theorem aYJ {s : Bool} {m : Nat} {p : Int} (hp : -1074 ≤ p) (hm : m < 9007199254740992) (hsub : m < 4503599627370496 → p = -1074) (t : Bool) :
    (p < 0 → compare (Zv s m p) (Zv t 4503599627370496 0) = if t then .gt else .lt) ∧ (¬ p < 0 → s = t → compare (Zv s m p) (Zv t 4503599627370496 0) ≠ if t then .gt else .lt) ∧ (¬ p < 0 → s ≠ t → compare (Zv s m p) (Zv t 4503599627370496 0) = if t then .gt else .lt) := by
  refine ⟨fun h => ?_, fun h hs => ?_, fun h hs => ?_⟩
  · have hb : ((m : Nat) : Int) < ((4503599627370496 * 2 ^ (-p).toNat : Nat) : Int) := by
      have h1 : 2 ^ 1 ≤ 2 ^ (-p).toNat := Nat.pow_le_pow_right (by decide) (by omega)
      omega
    rw [mW (show p ≤ p by omega) hp, mW (show p ≤ (0 : Int) by omega) hp, rX (Int.natCast_pos.2 (Nat.pow_pos (by decide))), show (p - p).toNat = 0 by omega, show ((0 : Int) - p).toNat = (-p).toNat by omega]
    unfold Ieee.signed
    rw [Nat.shiftLeft_zero, Nat.shiftLeft_eq]
    generalize (4503599627370496 * 2 ^ (-p).toNat : Nat) = K at hb
    cases t
    · simp only [Bool.false_eq_true, if_false]
      rw [Int.compare_eq_lt]
      cases s <;> simp <;> omega
    · simp only [if_true]
      rw [Int.compare_eq_gt]
      cases s <;> simp <;> omega
  · subst hs
    have hm0 : 4503599627370496 ≤ m := by
      rcases Nat.lt_or_ge m 4503599627370496 with h2 | h2
      · have := hsub h2
        omega
      · exact h2
    have hg : ((4503599627370496 : Nat) : Int) ≤ ((m <<< p.toNat : Nat) : Int) := by
      rw [Nat.shiftLeft_eq]
      have : m * 1 ≤ m * 2 ^ p.toNat := Nat.mul_le_mul_left _ (Nat.pow_pos (by decide))
      omega
    rw [mW (s := s) (m := m) (p := p) (base := 0) (by omega) (by decide), mW (s := s) (m := 4503599627370496) (p := 0) (base := 0) (by decide) (by decide), rX (Int.natCast_pos.2 (Nat.pow_pos (by decide))), show (p - 0).toNat = p.toNat by omega, show ((0 : Int) - 0).toNat = 0 from rfl]
    unfold Ieee.signed
    rw [Nat.shiftLeft_zero]
    generalize (m <<< p.toNat : Nat) = K at hg
    cases s
    · simp only [Bool.false_eq_true, if_false]
      intro hc
      rw [Int.compare_eq_lt] at hc
      omega
    · simp only [if_true]
      intro hc
      rw [Int.compare_eq_gt] at hc
      omega
  · have hm0 : 4503599627370496 ≤ m := by
      rcases Nat.lt_or_ge m 4503599627370496 with h2 | h2
      · have := hsub h2
        omega
      · exact h2
    have hg : (0 : Int) ≤ ((m <<< p.toNat : Nat) : Int) := Int.natCast_nonneg _
    rw [mW (s := s) (m := m) (p := p) (base := 0) (by omega) (by decide), mW (s := t) (m := 4503599627370496) (p := 0) (base := 0) (by decide) (by decide), rX (Int.natCast_pos.2 (Nat.pow_pos (by decide))), show (p - 0).toNat = p.toNat by omega, show ((0 : Int) - 0).toNat = 0 from rfl]
    unfold Ieee.signed
    rw [Nat.shiftLeft_zero]
    generalize (m <<< p.toNat : Nat) = K at hg
    cases t
    · have : s = true := by cases s <;> simp_all
      subst this
      simp only [Bool.false_eq_true, if_false, if_true]
      rw [Int.compare_eq_lt]
      omega
    · have : s = false := by cases s <;> simp_all
      subst this
      simp only [Bool.false_eq_true, if_false, if_true]
      rw [Int.compare_eq_gt]
      omega
theorem r52 (t : Bool) : Ieee.double.read (cond t 14064741636278059008 4841369599423283200) = .number t 4503599627370496 0 := by cases t <;> decide +kernel
def AY (x : Nat) : Nat := floatOfInt .f64 ((floatToIntVal .f64 x .i64).getD 0)
def fK (x : Nat) : Nat := match ltD (fop .sub .f64 x (AY x)) 0 with
  | true => fop .add .f64 (fop .sub .f64 x (AY x)) 4607182418800017408
  | false => fop .sub .f64 x (AY x)
theorem aF9 {x : Nat} (h : smB x = true) : (match eqD (qK .zero x) 0 with | true => 0 | false => qK .zero x) = AY x := by
  obtain ⟨s, m, p, hx, hp⟩ := aw7 h
  have hq : m / 2 ^ (-p).toNat < 9007199254740992 := Nat.lt_of_le_of_lt (Nat.div_le_self _ _) (kT hx).2.1
  unfold AY
  rw [ahB hx (by omega), Option.getD_some, ahC, aAE hx hp, aF6 hq]
  by_cases h0 : m / 2 ^ (-p).toNat = 0
  · rw [decide_eq_true h0, if_pos h0]
  · rw [decide_eq_false h0, if_neg h0]
theorem arY {x y : Nat} {s t : Bool} {m n : Nat} {i j : Int} (hx : Ieee.double.read x = .number s m i) (hy : Ieee.double.read y = .number t n j) : fop .add .f64 x y = fop .add .f64 y x := by
  unfold fop floatBits
  show (Ieee.double.add x y).getD _ = (Ieee.double.add y x).getD _
  unfold Ieee.Format.add
  rw [hx, hy]
  unfold Ieee.Datum.sum
  dsimp only
  rw [Int.min_comm j i, Int.add_comm (Ieee.signed t n (j - min i j).toNat), Bool.and_comm t s]
def PZ (x : Nat) : Prop := ∃ s m e, Ieee.double.read x = .number s m e ∧ LE1 m e ∧ (s = false ∨ m = 0)
theorem aGA : Ieee.double.read 0 = .number false 0 (-1074) := by decide +kernel
theorem aw8 (s : Bool) (p : Int) : Zv s 0 p = 0 := by unfold Zv Ieee.signed; cases s <;> simp
theorem arZ {m : Nat} (k : Nat) (hm : m ≠ 0) : 0 < Ieee.signed false m k := by
  unfold Ieee.signed
  rw [if_neg (by decide), Nat.shiftLeft_eq]
  exact Int.natCast_pos.2 (Nat.mul_pos (by omega) (Nat.pow_pos (by decide)))
theorem aaJ (s : Bool) (m k : Nat) : Ieee.signed (!s) m k = - Ieee.signed s m k := by
  unfold Ieee.signed
  cases s <;> simp
theorem lt0 {x : Nat} {s : Bool} {m : Nat} {p : Int} (hx : Ieee.double.read x = .number s m p) : ltD x 0 = (s && decide (m ≠ 0)) := by
  have h0 := (kT hx).1
  have ho := acA hx aGA h0 (by decide)
  rw [aw8] at ho
  unfold ltD
  rw [ho]
  by_cases hm : m = 0
  · subst hm
    rw [aw8]
    cases s <;> rfl
  · have hp := arZ (p + 1074).toNat hm
    cases s
    · have : compare (Zv false m p) 0 = .gt := Int.compare_eq_gt.2 hp
      rw [this]
      rfl
    · have : compare (Zv true m p) 0 = .lt := by
        rw [Int.compare_eq_lt]
        unfold Zv
        rw [show true = !false from rfl, aaJ]
        omega
      rw [this, decide_eq_true hm]
      rfl
theorem ajQ {x : Nat} (h : smB x = true) : PZ (fK x) := by
  obtain ⟨s, m, p, hx, hp⟩ := aw7 h
  obtain ⟨w, h1, b, n, e, h2, h3, _⟩ := aF7 hx hp
  have hw : AY x = floatOfInt .f64 w := by unfold AY; rw [h1]; rfl
  unfold fK
  rw [hw, h2]
  obtain ⟨r, h4, h5⟩ := awY b h3
  obtain ⟨m', e', h6, h7, _⟩ := anY b h5
  rw [← h4] at h6
  rw [lt0 h6]
  cases b with
  | false => exact ⟨false, m', e', h6, h7, .inl rfl⟩
  | true =>
    by_cases hm : m' = 0
    · rw [decide_eq_false (show ¬ m' ≠ 0 from fun h => h hm)]
      exact ⟨true, m', e', h6, h7, .inr hm⟩
    · rw [decide_eq_true hm]
      have hnu := awZ (s := true) h3 (.inl rfl)
      have hone : Ieee.double.read 4607182418800017408 = .number false 4503599627370496 (-52) := by decide +kernel
      obtain ⟨m2, e2, k1, k2⟩ := hnu.one
      refine ⟨false, m2, e2, ?_, k2, .inl rfl⟩
      rw [← k1]
      exact congrArg _ (arY h6 hone)
def PQ (k : Nat) (x : Nat) : Prop := ∃ s m p, Ieee.double.read x = .number s m p ∧ (s = false ∨ m = 0) ∧ p ≤ -2 ∧ m ≤ k * 2 ^ (-2 - p).toNat
theorem aGB {x : Nat} (h : PZ x) : PQ 4 x := by
  obtain ⟨s, m, p, hx, hl, hs⟩ := h
  obtain ⟨h0, h1, h2, _⟩ := kT hx
  have hp : p ≤ -2 := by
    rcases Nat.lt_or_ge m 4503599627370496 with h | h
    · have := h2 h
      omega
    · rcases hl with h3 | ⟨h3, h4⟩
      · omega
      · by_cases hp : p ≤ -2
        · exact hp
        · have : 2 ^ (-p).toNat ≤ 2 ^ 1 := Nat.pow_le_pow_right (by decide) (by omega)
          omega
  refine ⟨s, m, p, hx, hs, hp, ?_⟩
  rcases hl with h3 | ⟨h3, h4⟩
  · omega
  · rw [show (-p).toNat = (-2 - p).toNat + 2 by omega, Nat.pow_add] at h4
    omega
theorem aNZ {x c : Nat} {s : Bool} {m cm j : Nat} {p cp : Int} (hx : Ieee.double.read x = .number s m p) (hp : p ≤ -2) (hc : Ieee.double.read c = .number false cm cp) (hz : Zv false cm cp = Zv false j (-2)) :
    FloatKind.f64.format.order x c = some (compare (Ieee.signed s m 0) ((j * 2 ^ (-2 - p).toNat : Nat) : Int)) := by
  have h0 := (kT hx).1
  rw [acA hx hc h0 (kT hc).1, hz, mW (show p ≤ p by omega) h0, mW (show p ≤ (-2 : Int) by omega) h0, rX (Int.natCast_pos.2 (Nat.pow_pos (by decide))), show (p - p).toNat = 0 by omega]
  congr 2
  unfold Ieee.signed
  rw [if_neg (by decide), Nat.shiftLeft_eq]
theorem q14 : ∃ cm cp, Ieee.double.read 4598175219545276416 = .number false cm cp ∧ Zv false cm cp = Zv false 1 (-2) :=
  ⟨4503599627370496, -54, by decide +kernel, by
    have h := adV false (m := 1) (p := -2) (q := -54) (by decide) (by decide)
    rw [show 1 * 2 ^ ((-2 : Int) - -54).toNat = 4503599627370496 by decide +kernel] at h
    exact h⟩
theorem q12 : ∃ cm cp, Ieee.double.read 4602678819172646912 = .number false cm cp ∧ Zv false cm cp = Zv false 2 (-2) :=
  ⟨4503599627370496, -53, by decide +kernel, by
    have h := adV false (m := 2) (p := -2) (q := -53) (by decide) (by decide)
    rw [show 2 * 2 ^ ((-2 : Int) - -53).toNat = 4503599627370496 by decide +kernel] at h
    exact h⟩
theorem ar0 (neg : Bool) (m k d : Nat) (hd : d ≤ k) (hm : m ≠ 0) : Ieee.Toward.even.cut neg (m * 2 ^ k) d = m * 2 ^ (k - d) := by
  unfold Ieee.Toward.cut
  simp only [Nat.one_shiftLeft]
  have hlog : k ≤ (m * 2 ^ k).log2 := by
    rw [Nat.le_log2 (Nat.mul_ne_zero hm (Nat.ne_of_gt (Nat.pow_pos (by decide))))]
    exact Nat.le_mul_of_pos_left _ (by omega)
  rw [Nat.min_eq_left (by omega)]
  have e : m * 2 ^ k = m * 2 ^ (k - d) * 2 ^ d := by rw [Nat.mul_assoc, ← Nat.pow_add, Nat.sub_add_cancel hd]
  have hpos : 0 < 2 ^ d := Nat.pow_pos (by decide)
  rw [e, Nat.mul_div_cancel _ hpos, Nat.mul_mod_left]
  have e1 : decide (2 ^ d < 2 * 0) = false := decide_eq_false (by omega)
  have e2 : (2 ^ d == 2 * 0) = false := by simp
  simp [e1, e2]
theorem an7 (s : Bool) {m : Nat} {p q : Int} (hqp : q ≤ p) (hq : -1074 ≤ q) (hb : m < 9007199254740992) : Ieee.double.nearest s (m * 2 ^ (p - q).toNat) q = Ieee.double.nearest s m p := by
  by_cases hm : m = 0
  · subst hm
    rw [Nat.zero_mul]
    unfold Ieee.Format.nearest
    rw [if_pos rfl, if_pos rfl]
  generalize hk : (p - q).toNat = k
  have hne : m * 2 ^ k ≠ 0 := Nat.mul_ne_zero hm (Nat.ne_of_gt (Nat.pow_pos (by decide)))
  have hL : m.log2 < 53 := (Nat.log2_lt hm).2 hb
  have hlog : (m * 2 ^ k).log2 = m.log2 + k := by rw [← Nat.shiftLeft_eq]; exact awX hm
  unfold Ieee.Format.nearest
  rw [if_neg hm, if_neg hne, hlog]
  have c4 : Ieee.double.leastPlace = -1074 := by decide
  have c5 : Ieee.double.fractionBits = 52 := by decide
  rw [c4, c5]
  dsimp only
  have e0 : q + ((m.log2 + k : Nat) : Int) - ((52 : Nat) : Int) = p + ((m.log2 : Nat) : Int) - ((52 : Nat) : Int) := by omega
  rw [e0]
  generalize hlast : max (p + ((m.log2 : Nat) : Int) - ((52 : Nat) : Int)) (-1074) = last
  have h1 : last ≤ p := by omega
  have key : Ieee.Toward.even.cut s ((m * 2 ^ k) <<< (q - last).toNat) (last - q).toNat = Ieee.Toward.even.cut s (m <<< (p - last).toNat) (last - p).toNat := by
    rw [show (last - p).toNat = 0 by omega, uH, Nat.shiftLeft_eq, Nat.shiftLeft_eq]
    by_cases hn : last ≤ q
    · rw [show (last - q).toNat = 0 by omega, uH, Nat.mul_assoc, ← Nat.pow_add, show k + (q - last).toNat = (p - last).toNat by omega]
    · rw [show (q - last).toNat = 0 by omega, Nat.pow_zero, Nat.mul_one, ar0 s m k _ (by omega) hm, show k - (last - q).toNat = (p - last).toNat by omega]
  rw [key]
theorem an8 {x c : Nat} {m cm j : Nat} {p cp : Int} {s t : Bool} {y z : Nat} {sm tn : Nat} {i k : Int} (hx : Ieee.double.read y = .number s sm i) (hy : Ieee.double.read z = .number t tn k) :
    ∃ (b : Bool) (base : Int) (T : Int), fop .sub .f64 y z = Ieee.double.nearest b T.natAbs base ∧ base = min i k ∧ T * ((2 ^ (base + 1074).toNat : Nat) : Int) = Zv s sm i - Zv t tn k ∧ b = (if T = 0 then s && !t else decide (T < 0)) := by
  have h1 := (kT hx).1
  have h2 := (kT hy).1
  have e : fop .sub .f64 y z = Ieee.double.nearest (if Ieee.signed s sm (i - min i k).toNat + Ieee.signed (!t) tn (k - min i k).toNat = 0 then s && !t else decide (Ieee.signed s sm (i - min i k).toNat + Ieee.signed (!t) tn (k - min i k).toNat < 0)) (Ieee.signed s sm (i - min i k).toNat + Ieee.signed (!t) tn (k - min i k).toNat).natAbs (min i k) := by
    unfold fop floatBits
    show (Ieee.double.sub y z).getD _ = _
    unfold Ieee.Format.sub
    rw [hx, hy]
    rfl
  refine ⟨_, min i k, _, e, rfl, ?_, rfl⟩
  rw [aaJ, mW (show min i k ≤ i by omega) (by omega), mW (show min i k ≤ k by omega) (by omega), Int.add_mul, Int.neg_mul]
  omega
theorem RD {x c : Nat} {m cm j k : Nat} {p cp : Int} (hx : Ieee.double.read x = .number false m p) (hp : p ≤ -2) (hc : Ieee.double.read c = .number false cm cp) (hz : Zv false cm cp = Zv false j (-2))
    (h1 : j * 2 ^ (-2 - p).toNat ≤ m) (h2 : m ≤ (k + j) * 2 ^ (-2 - p).toNat) : PQ k (fop .sub .f64 x c) := by
  obtain ⟨h0, hm, _, h9⟩ := kT hx
  have hc0 := (kT hc).1
  obtain ⟨b, base, T, e1, e2, e3, e4⟩ := an8 (x := x) (c := c) (m := m) (cm := cm) (j := j) (p := p) (cp := cp) hx hc
  generalize hQ : 2 ^ (-2 - p).toNat = Q at h1 h2
  have hZ : Zv false m p - Zv false cm cp = ((m - j * Q : Nat) : Int) * ((2 ^ (p + 1074).toNat : Nat) : Int) := by
    rw [hz, mW (show p ≤ p by omega) h0, mW (show p ≤ (-2 : Int) by omega) h0, show (p - p).toNat = 0 by omega]
    unfold Ieee.signed
    rw [if_neg (by decide), if_neg (by decide), Nat.shiftLeft_zero, Nat.shiftLeft_eq, hQ, ← Int.sub_mul]
    congr 1
    omega
  rw [hZ] at e3
  have hpw : ((2 ^ (p + 1074).toNat : Nat) : Int) = ((2 ^ (p - base).toNat : Nat) : Int) * ((2 ^ (base + 1074).toNat : Nat) : Int) := by
    rw [← Int.natCast_mul, ← Nat.pow_add, show (p - base).toNat + (base + 1074).toNat = (p + 1074).toNat by omega]
  have hpos : (0 : Int) < ((2 ^ (base + 1074).toNat : Nat) : Int) := Int.natCast_pos.2 (Nat.pow_pos (by decide))
  have hT : T = ((m - j * Q : Nat) : Int) * ((2 ^ (p - base).toNat : Nat) : Int) := by
    rw [hpw, ← Int.mul_assoc] at e3
    exact Int.eq_of_mul_eq_mul_right (Int.ne_of_gt hpos) e3
  have hT' : T = (((m - j * Q) * 2 ^ (p - base).toNat : Nat) : Int) := by rw [hT, Int.natCast_mul]
  have hb : b = false := by
    rw [e4]
    split
    · rfl
    · exact decide_eq_false (by omega)
  rw [hb, hT', Int.natAbs_natCast, an7 false (show base ≤ p by omega) (by omega) (show m - j * Q < 9007199254740992 by omega)] at e1
  obtain ⟨m', p', k1, k2, k3, k4, _⟩ := adU false (m := m - j * Q) (p := p) h0 (by omega) (by
    by_cases h : m - j * Q = 0
    · exact .inl h
    · have := (Nat.log2_lt h).2 (show m - j * Q < 2 ^ 53 by omega)
      exact .inr (by omega))
  rw [← e1] at k1
  refine ⟨false, m', p', k1, .inl rfl, by omega, ?_⟩
  rw [k4, show (-2 - p').toNat = (-2 - p).toNat + (p - p').toNat by omega, Nat.pow_add, hQ, ← Nat.mul_assoc]
  refine Nat.mul_le_mul_right _ ?_
  rw [Nat.add_mul] at h2
  omega
theorem ar1 {x c : Nat} {a b : Int} (h : FloatKind.f64.format.order x c = some (compare a b)) : (gtD x c || eqD x c) = decide (b ≤ a) := by
  unfold gtD eqD
  rw [h]
  rcases Int.lt_trichotomy a b with h1 | h1 | h1
  · rw [Int.compare_eq_lt.2 h1, decide_eq_false (by omega)]; rfl
  · rw [Int.compare_eq_eq.2 h1, decide_eq_true (by omega)]; rfl
  · rw [Int.compare_eq_gt.2 h1, decide_eq_true (by omega)]; rfl
theorem aYK {x c : Nat} {a b : Int} (h : FloatKind.f64.format.order x c = some (compare a b)) : gtD x c = decide (b < a) := by
  unfold gtD
  rw [h]
  rcases Int.lt_trichotomy a b with h1 | h1 | h1
  · rw [Int.compare_eq_lt.2 h1, decide_eq_false (by omega)]; rfl
  · rw [Int.compare_eq_eq.2 h1, decide_eq_false (by omega)]; rfl
  · rw [Int.compare_eq_gt.2 h1, decide_eq_true (by omega)]; rfl
theorem ML {s : Bool} {m : Nat} (h : s = false ∨ m = 0) : Ieee.signed s m 0 = (m : Int) := by
  unfold Ieee.signed
  rw [Nat.shiftLeft_zero]
  rcases h with rfl | rfl
  · rfl
  · cases s <;> rfl
def ajR (x : Nat) : Bool := gtD x 4598175219545276416 || eqD x 4598175219545276416
def qF : Nat → Nat → Nat × Int
  | 0, x => (x, 0)
  | n + 1, x => match ajR x with
    | true => ((qF n (fop .sub .f64 x 4598175219545276416)).1, (qF n (fop .sub .f64 x 4598175219545276416)).2 + 1)
    | false => (x, 0)
theorem aw9 {k x : Nat} (h : PQ (k + 1) x) (hg : ajR x = true) : PQ k (fop .sub .f64 x 4598175219545276416) := by
  obtain ⟨s, m, p, hx, hs, hp, hm⟩ := h
  obtain ⟨cm, cp, hc, hz⟩ := q14
  have ho := aNZ hx hp hc hz
  unfold ajR at hg
  rw [ar1 ho, ML hs] at hg
  have hg := of_decide_eq_true hg
  have hpos : 0 < 2 ^ (-2 - p).toNat := Nat.pow_pos (by decide)
  have hs : s = false := hs.resolve_right (by omega)
  subst hs
  exact RD hx hp hc hz (by omega) hm
theorem aN0 {x : Nat} (h : PQ 0 x) : ajR x = false := by
  obtain ⟨s, m, p, hx, hs, hp, hm⟩ := h
  obtain ⟨cm, cp, hc, hz⟩ := q14
  have ho := aNZ hx hp hc hz
  unfold ajR
  rw [ar1 ho, ML hs]
  have hpos : 0 < 2 ^ (-2 - p).toNat := Nat.pow_pos (by decide)
  exact decide_eq_false (by omega)
theorem aGC {R : Type} (L : Nat → Nat → Int → Option R) (Z : Nat → Int → Option R)
    (hs : ∀ M x q, ajR x = true → 0 ≤ q → q < 100 → L (M + 1) x q = L M (fop .sub .f64 x 4598175219545276416) (q + 1))
    (he : ∀ M x q, ajR x = false → 0 ≤ q → q < 100 → L (M + 1) x q = Z x q) : ∀ k x, PQ k x → ∀ (q : Int) M, 0 ≤ q → q + k < 100 → L (k + 1 + M) x q = Z (qF k x).1 (q + (qF k x).2) := by
  intro k
  induction k with
  | zero =>
    intro x h q M h0 h1
    rw [show 0 + 1 + M = M + 1 by omega, he M x q (aN0 h) h0 (by omega)]
    show _ = Z x (q + 0)
    rw [Int.add_zero]
  | succ k ih =>
    intro x h q M h0 h1
    rw [show k + 1 + 1 + M = (k + 1 + M) + 1 by omega]
    cases hg : ajR x with
    | false =>
      rw [he _ x q hg h0 (by omega)]
      unfold qF
      rw [hg]
      show _ = Z x (q + 0)
      rw [Int.add_zero]
    | true =>
      rw [hs _ x q hg h0 (by omega), ih _ (aw9 h hg) (q + 1) M (by omega) (by omega)]
      conv => rhs; unfold qF
      rw [hg]
      dsimp only
      rw [show q + 1 + (qF k (fop .sub .f64 x 4598175219545276416)).2 = q + ((qF k (fop .sub .f64 x 4598175219545276416)).2 + 1) by omega]
theorem aT9 : ∀ k x, PQ k x → PQ k (qF k x).1
  | 0, x, h => h
  | k + 1, x, h => by
    unfold qF
    cases hg : ajR x with
    | false => exact h
    | true =>
      obtain ⟨s, m, p, h1, h2, h3, h4⟩ := aT9 k _ (aw9 h hg)
      refine ⟨s, m, p, h1, h2, h3, Nat.le_trans h4 (Nat.mul_le_mul_right _ (by omega))⟩
theorem aU3 {k x : Nat} (h : PQ k x) (hk : k ≤ 4) : oU 1 x := by
  obtain ⟨s, m, p, hx, hs, hp, hm⟩ := h
  refine ⟨s, m, p, hx, ?_⟩
  by_cases h0 : m = 0
  · exact .inl h0
  right
  have h1 : m ≤ 4 * 2 ^ (-2 - p).toNat := Nat.le_trans hm (Nat.mul_le_mul_right _ hk)
  have h2 : m < 2 ^ ((-2 - p).toNat + 3) := by
    rw [Nat.pow_add]
    have : 0 < 2 ^ (-2 - p).toNat := Nat.pow_pos (by decide)
    omega
  have := (Nat.log2_lt h0).2 h2
  omega
def sS (u p k : Nat) : Nat := fop .sub .f64 4607182418800017408 (fop .quo .f64 (fop .mul .f64 u p) k)
def sP (u : Nat) : Nat := sS u (sS u (sS u (sS u (sS u (sS u (sS u (sS u 4607182418800017408 4643492690795692032) 4641592734702895104) 4639692778610098176) 4637440978796412928) 4634766966517661696) 4631107791820423168) 4626322717216342016) 4618441417868443648
def sZ (f : Nat) : Nat := fop .mul .f64 f 4618760256179416344
def aU4 (f : Nat) : Nat := fop .mul .f64 (sZ f) (sP (fop .mul .f64 (sZ f) (sZ f)))
def aGD (x : Nat) : Bool := gtD x 4602678819172646912 || eqD x 4602678819172646912
def an9 (f : Nat) : Nat := match gtD f 4598175219545276416 with | true => fop .sub .f64 4602678819172646912 f | false => f
def OB (x : Nat) : Nat := match aGD (fK x) with
  | true => I5 .f64 (aU4 (an9 (fop .sub .f64 (fK x) 4602678819172646912)))
  | false => aU4 (an9 (fK x))
theorem aAF {A L : Int} {x y n : Nat} {j : Int} (hx : oU A x) (hy : Ieee.double.read y = .number false n j) (hn : n ≠ 0) (hj : L ≤ j + (n.log2 : Int)) (h1 : -1000 ≤ A - L) (h2 : A - L ≤ 1000) : oU (A - L + 1) (fop .quo .f64 x y) := by
  obtain ⟨s, m, i, hx, hm⟩ := hx
  have e : fop .quo .f64 x y = Ieee.double.nearest (s ^^ false) (2 * ((m <<< (54 + n.log2 - m.log2)) / n) + ((m <<< (54 + n.log2 - m.log2)) % n != 0).toNat) (i - j - ((54 + n.log2 - m.log2 : Nat) : Int) - 1) := by
    unfold fop floatBits
    show (Ieee.double.div x y).getD _ = _
    unfold Ieee.Format.div
    rw [hx, hy]
    unfold Ieee.Datum.quotient
    dsimp only
    rw [if_neg hn]
    rfl
  rw [e]
  refine MK ?_ h1 h2
  by_cases m0 : m = 0
  · subst m0
    left
    simp
  have hm := hm.resolve_left m0
  generalize hmore : 54 + n.log2 - m.log2 = more
  have hb : (m <<< more % n != 0).toNat ≤ 1 := by cases (m <<< more % n != 0) <;> decide
  have h3 : m < 2 ^ (m.log2 + 1) := Nat.lt_log2_self
  have h4 : 2 ^ n.log2 ≤ n := Nat.log2_self_le hn
  have h5 : m <<< more / n < 2 ^ (m.log2 + 1 + more - n.log2) := by
    rw [Nat.div_lt_iff_lt_mul (by omega), Nat.shiftLeft_eq]
    have q1 : m * 2 ^ more < 2 ^ (m.log2 + 1) * 2 ^ more := Nat.mul_lt_mul_of_pos_right h3 (Nat.pow_pos (by decide))
    have q2 : 2 ^ (m.log2 + 1 + more - n.log2) * 2 ^ n.log2 ≤ 2 ^ (m.log2 + 1 + more - n.log2) * n := Nat.mul_le_mul_left _ h4
    rw [← Nat.pow_add] at q1 q2
    rw [show m.log2 + 1 + more - n.log2 + n.log2 = m.log2 + 1 + more by omega] at q2
    exact Nat.lt_of_lt_of_le q1 q2
  generalize m <<< more / n = q at *
  generalize (m <<< more % n != 0).toNat = b at *
  by_cases q0 : 2 * q + b = 0
  · exact .inl q0
  right
  have h6 : 2 * q + b < 2 ^ (m.log2 + 1 + more - n.log2 + 1) := by
    rw [Nat.pow_succ]
    omega
  have := (Nat.log2_lt q0).2 h6
  omega
theorem axA : oU 1 4607182418800017408 := ⟨false, 4503599627370496, -52, by decide +kernel, .inr (by decide)⟩
theorem JJ {a L : Int} {u p k n : Nat} {j : Int} (hu : oU 7 u) (hp : oU a p) (hk : Ieee.double.read k = .number false n j) (hn : n ≠ 0) (hj : L ≤ j + (n.log2 : Int)) (ha : -100 ≤ a) (ha2 : a ≤ 100) (hL : 0 ≤ L) (hL2 : L ≤ 10) (h1 : 1 ≤ a + 9 - L) : oU (a + 11 - L) (sS u p k) := by
  have h2 := Q8 hu hp (by omega) (by omega)
  have h3 := aAF (L := L) h2 hk hn hj (by omega) (by omega)
  have h4 := Q9 (axA.mono (show 1 ≤ a + 9 - L by omega)) (h3.mono (show 7 + a + 1 - L + 1 ≤ a + 9 - L by omega)) (by omega) (by omega)
  exact h4.mono (by omega)
theorem aU5 {u : Nat} (hu : oU 7 u) : oU 44 (sP u) := by
  unfold sP
  have s1 := JJ (L := 8) (k := 4643492690795692032) (n := 4785074604081152) (j := -44) hu axA (by decide +kernel) (by decide) (by decide) (by decide) (by decide) (by decide) (by decide) (by decide)
  have s2 := JJ (L := 7) (k := 4641592734702895104) (n := 7388718138654720) (j := -45) hu s1 (by decide +kernel) (by decide) (by decide) (by decide) (by decide) (by decide) (by decide) (by decide)
  have s3 := JJ (L := 7) (k := 4639692778610098176) (n := 5488762045857792) (j := -45) hu s2 (by decide +kernel) (by decide) (by decide) (by decide) (by decide) (by decide) (by decide) (by decide)
  have s4 := JJ (L := 6) (k := 4637440978796412928) (n := 7740561859543040) (j := -46) hu s3 (by decide +kernel) (by decide) (by decide) (by decide) (by decide) (by decide) (by decide) (by decide)
  have s5 := JJ (L := 6) (k := 4634766966517661696) (n := 5066549580791808) (j := -46) hu s4 (by decide +kernel) (by decide) (by decide) (by decide) (by decide) (by decide) (by decide) (by decide)
  have s6 := JJ (L := 5) (k := 4631107791820423168) (n := 5910974510923776) (j := -47) hu s5 (by decide +kernel) (by decide) (by decide) (by decide) (by decide) (by decide) (by decide) (by decide)
  have s7 := JJ (L := 4) (k := 4626322717216342016) (n := 5629499534213120) (j := -48) hu s6 (by decide +kernel) (by decide) (by decide) (by decide) (by decide) (by decide) (by decide) (by decide)
  have s8 := JJ (L := 2) (k := 4618441417868443648) (n := 6755399441055744) (j := -50) hu s7 (by decide +kernel) (by decide) (by decide) (by decide) (by decide) (by decide) (by decide) (by decide)
  exact s8.mono (by decide)
theorem aoA {f : Nat} (h : oU (-1) f) : oU 48 (aU4 f) := by
  have h2pi : oU 3 4618760256179416344 := ⟨false, 7074237752028440, -50, by decide +kernel, .inr (by decide)⟩
  have hz : oU 3 (sZ f) := Q8 h h2pi (by decide) (by decide)
  have hu : oU 7 (fop .mul .f64 (sZ f) (sZ f)) := Q8 hz hz (by decide) (by decide)
  exact Q8 hz (aU5 hu) (by decide) (by decide)
theorem ahD {f : Nat} (h : PQ 2 f) : oU (-1) (an9 f) := by
  obtain ⟨s, m, p, hx, hs, hp, hm⟩ := h
  obtain ⟨cm, cp, hc, hz⟩ := q14
  have ho := aNZ hx hp hc hz
  unfold an9
  rw [aYK ho, ML hs]
  by_cases hg : ((1 * 2 ^ (-2 - p).toNat : Nat) : Int) < (m : Int)
  · rw [decide_eq_true hg]
    have hpos : 0 < 2 ^ (-2 - p).toNat := Nat.pow_pos (by decide)
    have hs : s = false := hs.resolve_right (by omega)
    subst hs
    obtain ⟨dm, dp, hd, hdz⟩ := q12
    obtain ⟨h0, _⟩ := kT hx
    obtain ⟨hd0, _⟩ := kT hd
    obtain ⟨b, base, T, e1, e2, e3, e4⟩ := an8 (x := f) (c := f) (m := m) (cm := cm) (j := 0) (p := p) (cp := cp) hd hx
    rw [e1]
    show oU (-2 + 1) _
    refine MK ?_ (by decide) (by decide)
    by_cases hT : T.natAbs = 0
    · exact .inl hT
    right
    generalize hQ : 2 ^ (-2 - p).toNat = Q at *
    have hZ : Zv false dm dp - Zv false m p = ((2 * Q - m : Nat) : Int) * ((2 ^ (p + 1074).toNat : Nat) : Int) := by
      rw [hdz, mW (show p ≤ p by omega) h0, mW (show p ≤ (-2 : Int) by omega) h0, show (p - p).toNat = 0 by omega]
      unfold Ieee.signed
      rw [if_neg (by decide), if_neg (by decide), Nat.shiftLeft_zero, Nat.shiftLeft_eq, hQ, ← Int.sub_mul]
      congr 1
      omega
    rw [hZ] at e3
    have habs : T.natAbs * 2 ^ (base + 1074).toNat = (2 * Q - m) * 2 ^ (p + 1074).toNat := by
      have := congrArg Int.natAbs e3
      rw [Int.natAbs_mul, Int.natAbs_natCast, Int.natAbs_mul, Int.natAbs_natCast, Int.natAbs_natCast] at this
      exact this
    have hlt : (2 * Q - m) * 2 ^ (p + 1074).toNat < Q * 2 ^ (p + 1074).toNat := Nat.mul_lt_mul_of_pos_right (by omega) (Nat.pow_pos (by decide))
    have hb : base ≤ -2 := by omega
    rw [← habs, ← hQ, ← Nat.pow_add, show (-2 - p).toNat + (p + 1074).toNat = (-2 - base).toNat + (base + 1074).toNat by omega, Nat.pow_add] at hlt
    have h6 := Nat.lt_of_mul_lt_mul_right hlt
    have := (Nat.log2_lt hT).2 h6
    omega
  · rw [decide_eq_false hg]
    refine ⟨s, m, p, hx, ?_⟩
    by_cases h0 : m = 0
    · exact .inl h0
    right
    have h1 : m < 2 ^ ((-2 - p).toNat + 1) := by
      rw [Nat.pow_add]
      have : 0 < 2 ^ (-2 - p).toNat := Nat.pow_pos (by decide)
      omega
    have := (Nat.log2_lt h0).2 h1
    omega
theorem aoB {x : Nat} (h : smB x = true) : oU 48 (OB x) := by
  have hq := aGB (ajQ h)
  unfold OB
  obtain ⟨s, m, p, hx, hs, hp, hm⟩ := hq
  obtain ⟨cm, cp, hc, hz⟩ := q12
  have ho := aNZ hx hp hc hz
  unfold aGD
  rw [ar1 ho, ML hs]
  by_cases hg : ((2 * 2 ^ (-2 - p).toNat : Nat) : Int) ≤ (m : Int)
  · rw [decide_eq_true hg]
    have hpos : 0 < 2 ^ (-2 - p).toNat := Nat.pow_pos (by decide)
    have hs : s = false := hs.resolve_right (by omega)
    subst hs
    exact aF3 (aoA (ahD (RD (k := 2) hx hp hc hz (by omega) hm)))
  · rw [decide_eq_false hg]
    exact aoA (ahD ⟨s, m, p, hx, hs, hp, by omega⟩)
def phF (x : Nat) : Nat := (qF 4 (fK x)).1
def phQ (x : Nat) : Int := (qF 4 (fK x)).2
def phC (x : Nat) : Nat := OB (fop .sub .f64 4598175219545276416 (phF x))
def phS (x : Nat) : Nat := OB (phF x)
def phX (x : Nat) : Nat := match phQ x == 1 with
  | true => fop .sub .f64 0 (phS x)
  | false => match phQ x == 2 with
    | true => fop .sub .f64 0 (phC x)
    | false => match phQ x == 3 with | true => phS x | false => phC x
def phY (x : Nat) : Nat := match phQ x == 1 with
  | true => phC x
  | false => match phQ x == 2 with
    | true => fop .sub .f64 0 (phS x)
    | false => match phQ x == 3 with | true => fop .sub .f64 0 (phC x) | false => phS x
def nr (y : Nat) : Nat := (fF .f64 y .f32).getD 0
theorem aGE {x : Nat} (h : smB x = true) : smB (phF x) = true ∧ smB (fop .sub .f64 4598175219545276416 (phF x)) = true := by
  have h1 : oU 1 (phF x) := aU3 (aT9 4 _ (aGB (ajQ h))) (by decide)
  have hq : oU 1 4598175219545276416 := ⟨false, 4503599627370496, -54, by decide +kernel, .inr (by decide)⟩
  exact ⟨adX h1 (by decide), adX (Q9 hq h1 (by decide) (by decide)) (by decide)⟩
theorem aU6 {x : Nat} (h : smB x = true) : oU 48 (phC x) ∧ oU 48 (phS x) ∧ oU 50 (fop .sub .f64 0 (phC x)) ∧ oU 50 (fop .sub .f64 0 (phS x)) := by
  obtain ⟨h1, h2⟩ := aGE h
  have c := aoB h2
  have s := aoB h1
  have z : oU 48 0 := ⟨false, 0, -1074, aGA, .inl rfl⟩
  exact ⟨c, s, Q9 z c (by decide) (by decide), Q9 z s (by decide) (by decide)⟩
theorem RF {y : Nat} (h : oU 50 y) : fF .f64 y .f32 = some (nr y) := by
  obtain ⟨r, hr⟩ := aAC (h.mono (by decide))
  unfold nr
  rw [hr]
  rfl
theorem aGF : FnT Try.prog 64 adN := aNR Try.func64 (by decide) (by rfl) (by rfl) (by rfl)
def ahE : Fns := gX [(64, adN)]
theorem aoC : ∀ f, FnT Try.prog f (ahE f) := (aC (k := 64) aGF bJ)
theorem aAG (N : Nat) (x : Nat) : run ty ahE fB N Try.f50 [.fl .f64 x] []
    = some (.fl .f64 (uY x), []) := by
  kernel_rfl
theorem aGG : FnT Try.prog 50 (adN) := by
  refine fnT aoC Try.func50 rfl rfl fB fun vs h v h' e => ⟨0, ?_⟩
  unfold adN at e
  split at e
  case h_2 => exact (T.no_inv e).elim
  obtain ⟨rfl, rfl⟩ := T.ret_inv e
  exact aAG 0 _
def axB : G := fun vs h => match vs, h with | [.fl .f32 x], [] => some (.fl .f32 (JH x), []) | _, _ => none
def JK : Fns := gX [(50, adN)]
theorem Y7 : ∀ f, FnT Try.prog f (JK f) := (aC (k := 50) aGG bJ)
theorem adY (N : Nat) (x : Nat) : run ty JK fB N Try.f26 [.fl .f32 x] []
    = (match fF .f32 x .f64 with | some c1 => (match fF .f64 (uY c1) .f32 with | some c2 => some (.fl .f32 c2, []) | none => none) | none => none) := by
  kernel_rfl
theorem OM : FnT Try.prog 26 (gT axB) := by
  refine fnT Y7 Try.func26 rfl rfl fB fun vs h v h' e => ⟨0, ?_⟩
  rw [T.run_of] at e
  unfold axB at e
  split at e
  case h_2 => cases e
  rename_i x
  cases e
  refine Eq.trans (adY 0 x) ?_
  simp only [lU, aFR, Option.isSome_some, Option.getD_some]
theorem T.run_ite (b : Bool) (x y : T) : (T.ite b x y).run = match b with | true => x.run | false => y.run := rfl
theorem T.run_ret (v : V) (h : H) : (T.ret v h).run = some (v, h) := rfl
theorem FnT.runs {f : FuncId} {fn : Func} {code : Code} {fns : Fns} (hfn : ∀ f, FnT Try.prog f (fns f)) (hf : Try.prog.funcs[f]? = some fn) (hb : fn.body = some code) (hn : (fn.name == "runtime.NumGoroutine") = false) (an : Ann) (N : Nat) :
    FnT Try.prog f (fun vs h => T.of (run ty fns an N fn vs h)) :=
  fnT hfn hf hb hn an fun vs h v h' e => ⟨N, by rw [T.run_of] at e; exact e⟩
theorem iY {l : List Nat} {i : Nat} (h : i < l.length) : l[i]? = some (l.getD i 0) := by simp [List.getD_eq_getElem?_getD, h]
theorem first_any {α : Type} (t : α → Bool) : ∀ (l : List α) (i : Nat), (oI t l i).isSome = l.any t
  | [], i => rfl
  | x :: l, i => by
    unfold oI
    rw [List.any_cons]
    cases t x with
    | true => rfl
    | false => exact first_any t l (i + 1)
theorem aN1 {α : Type} (q : α → Bool) (l : List α) : (l.any fun x => !q x) = !(l.all q) := by
  induction l with
  | nil => rfl
  | cons x l ih => simp only [List.any_cons, List.all_cons, ih]; cases q x <;> rfl
theorem aYL {R : Type} (n : Nat) (t : Nat → Bool) (L : Nat → Int → Option R) (A Z : Option R)
    (hs : ∀ (M i : Nat), i < n → L (M + 1) i = match t i with | true => A | false => L M ((i + 1 : Nat) : Int))
    (he : ∀ M, L (M + 1) (n : Nat) = Z) : L (n + 1) 0 = match (List.range n).any t with | true => A | false => Z := by
  have h := anX (List.range n) t L (fun _ => A) Z (fun M i x hx => by
    have hi : i < n := by have := xM hx; simpa using this
    rw [List.getElem?_range hi] at hx
    cases hx
    exact hs M i hi) (fun M => by rw [List.length_range]; exact he M)
  rw [List.length_range] at h
  rw [h, ← first_any t (List.range n) 0]
  cases oI t (List.range n) 0 <;> rfl
theorem aGH {α β R : Type} (l : List α) (q : α → Bool) (g : α → β) (L : Nat → Nat → List β → Option R) (A : Option R) (Z : List β → Option R)
    (hs : ∀ (M i : Nat) (out : List β) (x : α), l[i]? = some x → out.length = i → L (M + 1) i out = match q x with | true => L M (i + 1) (out ++ [g x]) | false => A)
    (he : ∀ M out, out.length = l.length → L (M + 1) l.length out = Z out) :
    ∀ suf pre, l = pre ++ suf → ∀ M, L (suf.length + 1 + M) pre.length (pre.map g) = match suf.all q with | true => Z (l.map g) | false => A := by
  intro suf
  induction suf with
  | nil =>
    intro pre hl M
    have hp : pre = l := by rw [hl]; simp
    rw [show ([] : List α).length + 1 + M = M + 1 by simp; omega]
    subst hp
    exact he M _ (by simp)
  | cons x suf ih =>
    intro pre hl M
    rw [show (x :: suf).length + 1 + M = (suf.length + 1 + M) + 1 by simp; omega, hs _ _ _ x (by rw [hl]; simp) (by simp), List.all_cons]
    cases q x with
    | false => rfl
    | true =>
      rw [Bool.true_and]
      have := ih (pre ++ [x]) (by rw [hl]; simp) M
      rw [List.map_append, List.map_singleton, List.length_append, List.length_singleton] at this
      exact this
def aUA (x : Nat) : Bool := (fF .f64 x .f32).isSome
def nar (x : Nat) : Nat := (fF .f64 x .f32).getD 0
def cfB (z : Nat × Nat) : Bool := iH z.1 && iH z.2
def aAH (l : List Nat) : Bool := (List.range (l.length - 1)).all fun i => gtB (l.getD (i + 1) 0) (l.getD i 0)
def vsB (l0 l1 : List Nat) : Bool := decide (l0.length < 12) && (decide (l1.length = l0.length + 1) && (l0.all iH && (l1.all iH && aAH l0)))
theorem aGI {l : List Nat} {q : Nat → Bool} (h : l.all q = true) {i : Nat} (hi : i < l.length) : q (l.getD i 0) = true := by
  rw [List.getD_eq_getElem?_getD, List.getElem?_eq_getElem hi, Option.getD_some]
  exact List.all_eq_true.mp h _ (List.getElem_mem hi)
def wvQ (e h : Nat) : Bool := gtB e h || ltB e h
def wvV (e h : Nat) : Nat × Nat := match gtB e h with | true => (JH (fop .sub .f32 e h), 0) | false => (0, JH (fop .sub .f32 h e))
def wvL (e : Nat) (l : List Nat) : List (Nat × Nat) := l.map (wvV e)
def OC (l0 l1 : List Nat) (e : Nat) : Bool := vsB l0 l1 && (iH e && (l1.all (wvQ e) && (wvL e l1).all cfB))
def aN2 : GT := fun vs h => match vs, h with
  | [.sl 0 0 n], [.at rw (.fl .f32 l)] => .ite (decide (l.length = n ∧ n < 2147483648)) (.ret (.bool (aAH l)) [.at rw (.fl .f32 l)]) .no
  | _, _ => .no
def gVs : GT := fun vs h => match vs, h with
  | [.g [.sl 0 0 n, .sl 1 0 m]], [.at r0 (.fl .f32 l0), .at r1 (.fl .f32 l1)] => .ite (decide (l0.length = n ∧ n < 2147483648 ∧ l1.length = m ∧ m < 2147483648)) (.ret (.bool (vsB l0 l1)) [.at r0 (.fl .f32 l0), .at r1 (.fl .f32 l1)]) .no
  | _, _ => .no
def acB : Ann := ⟨fun r => if r = 2 then some ([0, 3], [2]) else none, fun _ _ => .quiet⟩
def RG : Fns := gX []
theorem ar2 : ∀ f, FnT Try.prog f (RG f) := bJ
def RH (list0n : Nat) (i3 : Int) (rw0 : Bool) (l0 : List Nat) : St := ⟨(.sl 0 0 list0n :: .any :: .any :: .int .i64 i3 :: (fE 17 [])), [.at rw0 (.fl .f32 l0)]⟩
abbrev aGJ : Option (List Nat × List Nat) := some ([0, 3], [2])
noncomputable def RI {R : Type} (N M : Nat) (s : St) (K : X → St → Option R) : Option R := pO 1 aGJ (fun st K => exec ty RG acB N 1 (oD [true, false, true, false, false] Try.f38) st K) M s K
noncomputable def RJ {R : Type} (N : Nat) (K : X → St → Option R) : X → St → Option R := rF 0 (yS RG acB N 1 (oD [true, true] Try.f38) (K))
def adZ (rw0 : Bool) (l0 : List Nat) : St := ⟨(.any :: .any :: .bool false :: (fE 18 [])), [.at rw0 (.fl .f32 l0)]⟩
def ad1 (rw0 : Bool) (l0 : List Nat) : St := ⟨(fE 21 []), [.at rw0 (.fl .f32 l0)]⟩
theorem aGK (N : Nat) (n : Nat) (rw : Bool) (l : List Nat) : run ty RG acB N Try.f38 [.sl 0 0 n] [.at rw (.fl .f32 l)]
    = RI N N (RH n 1 rw l) (RJ N (mF Try.f38 1)) := by
  kernel_rfl
theorem ad2 {R : Type} (N M : Nat) (K : X → St → Option R) (list0n : Nat) (i3 : Int) (rw0 : Bool) (l0 : List Nat) : RI N (M + 1) (RH list0n i3 rw0 l0) K
    = (match decide ((i3 : Int) < ((list0n : Nat) : Int)) with | true => (match decide (0 ≤ (i3 : Int) ∧ (i3 : Int) < ((list0n : Nat) : Int)) with | true => (match l0[0 + (i3).toNat * 1]? with | some e1 => (match decide (0 ≤ (IntKind.i64.wrap (i3 - 1) : Int) ∧ (IntKind.i64.wrap (i3 - 1) : Int) < ((list0n : Nat) : Int)) with | true => (match l0[0 + (IntKind.i64.wrap (i3 - 1)).toNat * 1]? with | some e2 => (match !(gtB e1 e2) with | true => K .ret (adZ rw0 l0) | false => RI N M (RH list0n (IntKind.i64.wrap (i3 + 1)) rw0 l0) K) | none => none) | false => none) | none => none) | false => none) | false => K (.exit 0) (ad1 rw0 l0)) := by
  kernel_rfl
theorem aoD (N : Nat) (rw0 : Bool) (l0 : List Nat) : RJ N (mF Try.f38 1) .ret (adZ rw0 l0)
    = some (.bool false, [.at rw0 (.fl .f32 l0)]) := by
  kernel_rfl
theorem aoE (N : Nat) (rw0 : Bool) (l0 : List Nat) : RJ N (mF Try.f38 1) (.exit 0) (ad1 rw0 l0)
    = some (.bool true, [.at rw0 (.fl .f32 l0)]) := by
  kernel_rfl
theorem axC : FnT Try.prog 38 aN2 := by
  refine fnT ar2 Try.func38 rfl rfl acB fun vs h v h' e => ?_
  unfold aN2 at e
  split at e
  case h_2 => exact (T.no_inv e).elim
  rename_i n rw l
  obtain ⟨hd, e⟩ := T.pre_inv e
  obtain ⟨rfl, rfl⟩ := T.ret_inv e
  obtain ⟨rfl, hb⟩ := of_decide_eq_true hd
  refine ⟨l.length - 1 + 1, Eq.trans (aGK _ _ _ _) ?_⟩
  have hs := aYL (l.length - 1) (fun i => !gtB (l.getD (i + 1) 0) (l.getD i 0)) (fun M i => RI (l.length - 1 + 1) M (RH l.length (i + 1) rw l) (RJ (l.length - 1 + 1) (mF Try.f38 1))) (some (.bool false, [.at rw (.fl .f32 l)])) (some (.bool true, [.at rw (.fl .f32 l)])) (fun M i hi => ?_) (fun M => ?_)
  · refine Eq.trans hs ?_
    rw [aN1]
    unfold aAH
    cases ((List.range (l.length - 1)).all fun i => gtB (l.getD (i + 1) 0) (l.getD i 0)) <;> rfl
  · have w1 : IntKind.i64.wrap (((i : Nat) : Int) + 1 - 1) = ((i : Nat) : Int) := by rw [kP (by omega) (by omega)]; omega
    have w2 : IntKind.i64.wrap (((i : Nat) : Int) + 1 + 1) = ((i + 1 : Nat) : Int) + 1 := by rw [kP (by omega) (by omega)]; omega
    have c1 : ((i : Nat) : Int) + 1 = ((i + 1 : Nat) : Int) := by omega
    rw [ad2, w1, w2, c1, dlt (show i + 1 < l.length by omega), din (show i + 1 < l.length by omega), ix, iY (show i + 1 < l.length by omega), din (show i < l.length by omega), ix, iY (show i < l.length by omega)]
    try dsimp only
    rw [aoD]
    try rfl
  · have c1 : (((l.length - 1 : Nat)) : Int) + 1 = ((l.length - 1 + 1 : Nat) : Int) := by omega
    rw [ad2, c1, dge (show l.length ≤ l.length - 1 + 1 by omega), aoE]
def axD : Fns := gX [(21, QZ iH), (38, aN2)]
theorem aAI : ∀ f, FnT Try.prog f (axD f) := (aC (k := 21) pF (aC (k := 38) axC bJ))
theorem aN3 (N : Nat) (n : Nat) (m : Nat) (r0 : Bool) (l0 : List Nat) (r1 : Bool) (l1 : List Nat) : run ty axD fB N Try.f11 [.g [.sl 0 0 n, .sl 1 0 m]] [.at r0 (.fl .f32 l0), .at r1 (.fl .f32 l1)]
    = (match decide ((((n : Nat) : Int) : Int) < 12) with | true => (match ((m : Nat) : Int) == (IntKind.i64.wrap (((n : Nat) : Int) + 1)) with | true => (match decide (l0.length = n ∧ n < 2147483648) with | true => (match l0.all iH with | true => (match decide (l1.length = m ∧ m < 2147483648) with | true => (match l1.all iH with | true => (match decide (l0.length = n ∧ n < 2147483648) with | true => some (.bool (aAH l0), [.at r0 (.fl .f32 l0), .at r1 (.fl .f32 l1)]) | false => none) | false => some (.bool false, [.at r0 (.fl .f32 l0), .at r1 (.fl .f32 l1)])) | false => none) | false => some (.bool false, [.at r0 (.fl .f32 l0), .at r1 (.fl .f32 l1)])) | false => none) | false => some (.bool false, [.at r0 (.fl .f32 l0), .at r1 (.fl .f32 l1)])) | false => some (.bool false, [.at r0 (.fl .f32 l0), .at r1 (.fl .f32 l1)])) := by
  kernel_rfl
theorem nY : FnT Try.prog 11 gVs := by
  refine fnT aAI Try.func11 rfl rfl fB fun vs h v h' e => ⟨0, ?_⟩
  unfold gVs at e
  split at e
  case h_2 => exact (T.no_inv e).elim
  rename_i n m r0 l0 r1 l1
  obtain ⟨hd, e⟩ := T.pre_inv e
  obtain ⟨rfl, rfl⟩ := T.ret_inv e
  obtain ⟨rfl, hb, rfl, hb2⟩ := of_decide_eq_true hd
  refine Eq.trans (aN3 0 l0.length l1.length r0 l0 r1 l1) ?_
  unfold vsB
  by_cases h12 : l0.length < 12
  case neg =>
    rw [decide_eq_false h12, decide_eq_false (show ¬ ((l0.length : Nat) : Int) < 12 by omega)]
    rfl
  rw [decide_eq_true h12, decide_eq_true (show ((l0.length : Nat) : Int) < 12 by omega)]
  have w1 : IntKind.i64.wrap (((l0.length : Nat) : Int) + 1) = ((l0.length + 1 : Nat) : Int) := by rw [kP (by omega) (by omega)]; omega
  rw [w1]
  have hq : (((l1.length : Nat) : Int) == ((l0.length + 1 : Nat) : Int)) = decide (l1.length = l0.length + 1) := by
    by_cases h : l1.length = l0.length + 1
    · rw [h, decide_eq_true rfl]; simp
    · rw [decide_eq_false h]
      have : ((l1.length : Nat) : Int) ≠ ((l0.length + 1 : Nat) : Int) := by omega
      simpa using this
  rw [hq]
  by_cases hl : l1.length = l0.length + 1
  case neg =>
    rw [decide_eq_false hl]
    rfl
  rw [decide_eq_true hl]
  rw [decide_eq_true (show l0.length = l0.length ∧ l0.length < 2147483648 from ⟨rfl, hb⟩)]
  cases l0.all iH
  · rfl
  rw [decide_eq_true (show l1.length = l1.length ∧ l1.length < 2147483648 from ⟨rfl, hb2⟩)]
  cases l1.all iH
  · rfl
  rfl
def aoF : GT := fun vs h => match vs, h with | [.cx .f32 a b], [] => .ret (.bool (cfB (a, b))) [] | _, _ => .no
def axE : Fns := gX [(21, QZ iH)]
theorem aAJ : ∀ f, FnT Try.prog f (axE f) := (aC (k := 21) pF bJ)
theorem aN4 (N : Nat) (a : Nat) (b : Nat) : run ty axE fB N Try.f29 [.cx .f32 a b] []
    = some (.bool (iH a && (iH b && true)), []) := by
  kernel_rfl
theorem ar4 : FnT Try.prog 29 aoF := by
  refine fnT aAJ Try.func29 rfl rfl fB fun vs h v h' e => ⟨0, ?_⟩
  unfold aoF at e
  split at e
  case h_2 => exact (T.no_inv e).elim
  rename_i a b
  obtain ⟨rfl, rfl⟩ := T.ret_inv e
  refine Eq.trans (aN4 0 _ _) ?_
  unfold cfB
  cases iH a <;> cases iH b <;> rfl
def axF : Fns := gX [(29, aoF)]
theorem aAK : ∀ f, FnT Try.prog f (axF f) := (aC (k := 29) ar4 bJ)
theorem aN5 (N : Nat) (a : Nat) (b : Nat) : run ty axF fB N Try.f28 [.cx .f32 a b] []
    = some (.bool (!(cfB (a, b))), []) := by
  kernel_rfl
def aGL : GT := fun vs h => match vs, h with | [.cx .f32 a b], [] => .ret (.bool (!cfB (a, b))) [] | _, _ => .no
theorem aU7 : FnT Try.prog 28 aGL := by
  refine fnT aAK Try.func28 rfl rfl fB fun vs h v h' e => ⟨0, ?_⟩
  unfold aGL at e
  split at e
  case h_2 => exact (T.no_inv e).elim
  rename_i a b
  obtain ⟨rfl, rfl⟩ := T.ret_inv e
  exact aN5 0 _ _
def aU8 : GT := fun vs h => match vs, h with
  | [.sl 0 0 n, .fn f'], [.at rw (.cx .f32 l)] => if f' = 28 then .ite (decide (l.length = n ∧ n < 2147483648)) (.ret (.int .i64 (adM (fun z => !cfB z) l)) [.at rw (.cx .f32 l)]) .no else .no
  | _, _ => .no
def aN6 : GT := fun vs h => match vs, h with
  | [.sl 0 0 n, .fn f'], [.at rw (.cx .f32 l)] => if f' = 28 then .ite (decide (l.length = n ∧ n < 2147483648)) (.ret (.bool (!(l.all cfB))) [.at rw (.cx .f32 l)]) .no else .no
  | _, _ => .no
theorem aN7 (l : List (Nat × Nat)) : (decide (adM (fun z => !cfB z) l ≥ 0)) = !(l.all cfB) := by
  rw [← aFO cfB l, Bool.not_not]
def ajS : Ann := ⟨fun r => if r = 2 then some ([0, 1, 7, 8], [4]) else none, fun _ _ => .quiet⟩
def acC : Fns := gX [(28, aGL)]
theorem aAL : ∀ f, FnT Try.prog f (acC f) := (aC (k := 28) aU7 bJ)
def acD (s0n : Nat) (t7 : Int) (t8 : Int) (rw0 : Bool) (l0 : List (Nat × Nat)) : St := ⟨(.sl 0 0 s0n :: .fn 28 :: .any :: .any :: .any :: .any :: .any :: .int .i64 t7 :: .int .i64 t8 :: (fE 10 [])), [.at rw0 (.cx .f32 l0)]⟩
abbrev aN8 : Option (List Nat × List Nat) := some ([0, 1, 7, 8], [4])
noncomputable def acE {R : Type} (N M : Nat) (s : St) (K : X → St → Option R) : Option R := pO 1 aN8 (fun st K => exec ty acC ajS N 1 (oD [true, false, true, false, false] Try.f51) st K) M s K
noncomputable def acF {R : Type} (N : Nat) (K : X → St → Option R) : X → St → Option R := rF 0 (yS acC ajS N 1 (oD [true, true] Try.f51) (K))
def ahF (t4 : Int) (rw0 : Bool) (l0 : List (Nat × Nat)) : St := ⟨(.any :: .any :: .any :: .any :: .int .i64 t4 :: (fE 14 [])), [.at rw0 (.cx .f32 l0)]⟩
def ahG (rw0 : Bool) (l0 : List (Nat × Nat)) : St := ⟨(fE 19 []), [.at rw0 (.cx .f32 l0)]⟩
theorem aN9 (N : Nat) (n : Nat) (rw : Bool) (l : List (Nat × Nat)) : run ty acC ajS N Try.f51 [.sl 0 0 n, .fn 28] [.at rw (.cx .f32 l)]
    = acE N N (acD n ((n : Nat) : Int) 0 rw l) (acF N (mF Try.f51 1)) := by
  kernel_rfl
theorem ahH {R : Type} (N M : Nat) (K : X → St → Option R) (s0n : Nat) (t7 : Int) (t8 : Int) (rw0 : Bool) (l0 : List (Nat × Nat)) : acE N (M + 1) (acD s0n t7 t8 rw0 l0) K
    = (match decide ((t8 : Int) < t7) with | true => (match decide (0 ≤ (t8 : Int) ∧ (t8 : Int) < ((s0n : Nat) : Int)) with | true => (match l0[0 + (t8).toNat * 1]? with | some (e1, e2) => (match !cfB (e1, e2) with | true => K .ret (ahF t8 rw0 l0) | false => acE N M (acD s0n t7 (IntKind.i64.wrap (t8 + 1)) rw0 l0) K) | none => none) | false => none) | false => K (.exit 0) (ahG rw0 l0)) := by
  kernel_rfl
theorem ar5 (N : Nat) (t4 : Int) (rw0 : Bool) (l0 : List (Nat × Nat)) : acF N (mF Try.f51 1) .ret (ahF t4 rw0 l0)
    = some (.int .i64 t4, [.at rw0 (.cx .f32 l0)]) := by
  kernel_rfl
theorem ar6 (N : Nat) (rw0 : Bool) (l0 : List (Nat × Nat)) : acF N (mF Try.f51 1) (.exit 0) (ahG rw0 l0)
    = some (.int .i64 (-1), [.at rw0 (.cx .f32 l0)]) := by
  kernel_rfl
theorem aU9 : FnT Try.prog 51 aU8 := by
  refine fnT aAL Try.func51 rfl rfl ajS fun vs h v h' e => ?_
  unfold aU8 at e
  split at e
  · rename_i n f' rw l
    split at e
    · rename_i hf
      subst hf
      obtain ⟨hd, e⟩ := T.pre_inv e
      obtain ⟨rfl, rfl⟩ := T.ret_inv e
      obtain ⟨rfl, hb⟩ := of_decide_eq_true hd
      refine ⟨l.length + 1, Eq.trans (aN9 _ _ _ _) ?_⟩
      refine Eq.trans (anX l (fun z => !cfB z) (fun M i => acE (l.length + 1) M (acD l.length ((l.length : Nat) : Int) i rw l) (acF (l.length + 1) (mF Try.f51 1))) (fun j => some (.int .i64 (j : Int), [.at rw (.cx .f32 l)])) (some (.int .i64 (-1), [.at rw (.cx .f32 l)])) (fun M i x hx => ?_) (fun M => ?_)) ?_
      · have hi := xM hx
        obtain ⟨x1, x2⟩ := x
        simp only [ahH, dlt hi, din hi, ix, hx, wr (show i < 2147483648 by omega), ar5] <;> (cases !cfB (x1, x2) <;> rfl)
      · simp only [ahH, dge (Nat.le_refl _), ar6]
      · unfold adM
        cases oI (fun z => !cfB z) l 0 <;> rfl
    · exact (T.no_inv e).elim
  · exact (T.no_inv e).elim
def axG : Fns := gX [(51, aU8)]
theorem aAM : ∀ f, FnT Try.prog f (axG f) := (aC (k := 51) aU9 bJ)
theorem aOA (N : Nat) (n : Nat) (rw : Bool) (l : List (Nat × Nat)) : run ty axG fB N Try.f27 [.sl 0 0 n, .fn 28] [.at rw (.cx .f32 l)]
    = (match decide (l.length = n ∧ n < 2147483648) with | true => some (.bool (decide ((adM (fun z => !cfB z) l : Int) ≥ 0)), [.at rw (.cx .f32 l)]) | false => none) := by
  kernel_rfl
theorem aGM : FnT Try.prog 27 aN6 := by
  refine fnT aAM Try.func27 rfl rfl fB fun vs h v h' e => ⟨0, ?_⟩
  unfold aN6 at e
  split at e
  · split at e
    · rename_i n f' rw l hf
      subst hf
      obtain ⟨hd, e⟩ := T.pre_inv e
      obtain ⟨rfl, rfl⟩ := T.ret_inv e
      refine Eq.trans (aOA 0 _ _ _) ?_
      rw [hd, aN7]
    · exact (T.no_inv e).elim
  · exact (T.no_inv e).elim
def gWn : GT := fun vs h => match vs, h with
  | [.g [.sl 0 0 n, .sl 1 0 m], .fl .f32 e], [.at r0 (.fl .f32 l0), .at r1 (.fl .f32 l1)] => .ite (decide (l0.length = n ∧ n < 2147483648 ∧ l1.length = m ∧ m < 2147483648)) (.ite (OC l0 l1 e) (.ret (.tup [.a (.sl 2 0 (wvL e l1).length), .a (.bool true)]) [.at r0 (.fl .f32 l0), .at r1 (.fl .f32 l1), .at true (.cx .f32 (wvL e l1))]) (.ret (.tup [.a .nil, .a (.bool false)]) [.at r0 (.fl .f32 l0), .at r1 (.fl .f32 l1)])) .no
  | _, _ => .no
def ajT : Ann := ⟨fun r => if r = 5 then some ([1, 6, 19, 20, 21], [4, 5, 6]) else none, fun _ _ => .quiet⟩
def acG : Fns := gX [(11, gVs), (25, gT (gF1 iH)), (26, gT axB), (27, aN6)]
theorem aAN : ∀ f, FnT Try.prog f (acG f) := (aC (k := 11) nY (aC (k := 25) uI (aC (k := 26) OM (aC (k := 27) aGM bJ))))
def RN (energy1 : Nat) (out6n : Nat) (t19n : Nat) (t20 : Int) (t21 : Int) (rw0 : Bool) (l0 : List Nat) (rw1 : Bool) (l1 : List Nat) (l2 : List (Nat × Nat)) : St := ⟨(.any :: .fl .f32 energy1 :: .any :: .any :: .any :: .any :: .sl 2 0 out6n :: (fE 12 (.sl 1 0 t19n :: .int .i64 t20 :: .int .i64 t21 :: (fE 31 [])))), [.at rw0 (.fl .f32 l0), .at rw1 (.fl .f32 l1), .at true (.cx .f32 l2)]⟩
abbrev aOB : Option (List Nat × List Nat) := some ([1, 6, 19, 20, 21], [4, 5, 6])
noncomputable def RP {R : Type} (N M : Nat) (s : St) (K : X → St → Option R) : Option R := pO 2 aOB (fun st K => exec ty acG ajT N 2 (oD [true, true, true, false, true, false, false] Try.f9) st K) M s K
noncomputable def acH {R : Type} (N : Nat) (K : X → St → Option R) : X → St → Option R := rF 0 (yS acG ajT N 2 (oD [true, true, true, true] Try.f9) (K))
def ahI (out6n : Nat) (rw0 : Bool) (l0 : List Nat) (rw1 : Bool) (l1 : List Nat) (l2 : List (Nat × Nat)) : St := ⟨(.any :: .any :: .any :: .any :: .nil :: .bool false :: .sl 2 0 out6n :: (fE 46 [])), [.at rw0 (.fl .f32 l0), .at rw1 (.fl .f32 l1), .at true (.cx .f32 l2)]⟩
def ahJ (out6n : Nat) (rw0 : Bool) (l0 : List Nat) (rw1 : Bool) (l1 : List Nat) (l2 : List (Nat × Nat)) : St := ⟨(fE 6 (.sl 2 0 out6n :: (fE 46 []))), [.at rw0 (.fl .f32 l0), .at rw1 (.fl .f32 l1), .at true (.cx .f32 l2)]⟩
theorem aOC (N : Nat) (n : Nat) (m : Nat) (e : Nat) (r0 : Bool) (l0 : List Nat) (r1 : Bool) (l1 : List Nat) : run ty acG ajT N Try.f9 [.g [.sl 0 0 n, .sl 1 0 m], .fl .f32 e] [.at r0 (.fl .f32 l0), .at r1 (.fl .f32 l1)]
    = (match decide (l0.length = n ∧ n < 2147483648 ∧ l1.length = m ∧ m < 2147483648) with | true => (match !(vsB l0 l1) with | true => some (.tup [.a (.nil), .a (.bool false)], [.at r0 (.fl .f32 l0), .at r1 (.fl .f32 l1)]) | false => (match !(iH e) with | true => some (.tup [.a (.nil), .a (.bool false)], [.at r0 (.fl .f32 l0), .at r1 (.fl .f32 l1)]) | false => RP N N (RN e 0 m ((m : Nat) : Int) 0 r0 l0 r1 l1 []) (acH N (mF Try.f9 2)))) | false => none) := by
  kernel_rfl
theorem ahK {R : Type} (N M : Nat) (K : X → St → Option R) (energy1 : Nat) (out6n : Nat) (t19n : Nat) (t20 : Int) (t21 : Int) (rw0 : Bool) (l0 : List Nat) (rw1 : Bool) (l1 : List Nat) (l2 : List (Nat × Nat)) : RP N (M + 1) (RN energy1 out6n t19n t20 t21 rw0 l0 rw1 l1 l2) K
    = (match decide ((t21 : Int) < t20) with | true => (match decide (0 ≤ (t21 : Int) ∧ (t21 : Int) < ((t19n : Nat) : Int)) with | true => (match l1[0 + (t21).toNat * 1]? with | some e1 => (match gtB energy1 e1 with | true => (match zH true out6n 1 l2.length 1 (out6n + 1) 8 with | true => RP N M (RN energy1 (out6n + 1) t19n t20 (IntKind.i64.wrap (t21 + 1)) rw0 l0 rw1 l1 (l2 ++ [(JH (fop .sub .f32 energy1 e1), 0)])) K | false => none) | false => (match ltB energy1 e1 with | true => (match zH true out6n 1 l2.length 1 (out6n + 1) 8 with | true => RP N M (RN energy1 (out6n + 1) t19n t20 (IntKind.i64.wrap (t21 + 1)) rw0 l0 rw1 l1 (l2 ++ [(0, JH (fop .sub .f32 e1 energy1))])) K | false => none) | false => K .ret (ahI out6n rw0 l0 rw1 l1 l2))) | none => none) | false => none) | false => K (.exit 0) (ahJ out6n rw0 l0 rw1 l1 l2)) := by
  kernel_rfl
theorem ar7 (N : Nat) (out6n : Nat) (rw0 : Bool) (l0 : List Nat) (rw1 : Bool) (l1 : List Nat) (l2 : List (Nat × Nat)) : acH N (mF Try.f9 2) .ret (ahI out6n rw0 l0 rw1 l1 l2)
    = some (.tup [.a (.nil), .a (.bool false)], [.at rw0 (.fl .f32 l0), .at rw1 (.fl .f32 l1)]) := by
  kernel_rfl
theorem ar8 (N : Nat) (out6n : Nat) (rw0 : Bool) (l0 : List Nat) (rw1 : Bool) (l1 : List Nat) (l2 : List (Nat × Nat)) : acH N (mF Try.f9 2) (.exit 0) (ahJ out6n rw0 l0 rw1 l1 l2)
    = (match decide (l2.length = out6n ∧ out6n < 2147483648) with | true => (match !(l2.all cfB) with | true => some (.tup [.a (.nil), .a (.bool false)], [.at rw0 (.fl .f32 l0), .at rw1 (.fl .f32 l1)]) | false => some (.tup [.a (.sl 2 0 out6n), .a (.bool true)], [.at rw0 (.fl .f32 l0), .at rw1 (.fl .f32 l1), .at true (.cx .f32 l2)])) | false => none) := by
  kernel_rfl
theorem zJ : FnT Try.prog 9 gWn := by
  refine fnT aAN Try.func9 rfl rfl ajT fun vs h v h' ee => ⟨40, ?_⟩
  unfold gWn at ee
  split at ee
  case h_2 => exact (T.no_inv ee).elim
  rename_i n m e r0 l0 r1 l1
  obtain ⟨hd, e2⟩ := T.pre_inv ee
  refine Eq.trans (aOC 40 n m e r0 l0 r1 l1) (Eq.trans ?_ e2)
  rw [hd]
  obtain ⟨rfl, hb, rfl, hb2⟩ := of_decide_eq_true hd
  clear ee e2 hd
  rw [T.run_ite, T.run_ret, T.run_ret]
  unfold OC
  cases hv : vsB l0 l1
  · rfl
  cases hf : iH e
  · rfl
  have hv' := hv
  unfold vsB at hv'
  simp only [Bool.and_eq_true] at hv'
  have h12 := of_decide_eq_true hv'.1
  have hl1 := of_decide_eq_true hv'.2.1
  try dsimp only [Bool.not_true]
  have hs := aGH l1 (wvQ e) (wvV e) (fun M i out => RP 40 M (RN e out.length l1.length ((l1.length : Nat) : Int) (i : Int) r0 l0 r1 l1 out) (acH 40 (mF Try.f9 2))) (some ((.tup [.a .nil, .a (.bool false)]), [.at r0 (.fl .f32 l0), .at r1 (.fl .f32 l1)])) (fun out => match out.all cfB with | true => some (.tup [.a (.sl 2 0 out.length), .a (.bool true)], [.at r0 (.fl .f32 l0), .at r1 (.fl .f32 l1), .at true (.cx .f32 out)]) | false => some ((.tup [.a .nil, .a (.bool false)]), [.at r0 (.fl .f32 l0), .at r1 (.fl .f32 l1)])) (fun M i out x hx ho => ?_) (fun M out ho => ?_) l1 [] rfl (39 - l1.length)
  · rw [show l1.length + 1 + (39 - l1.length) = 40 by omega] at hs
    refine Eq.trans hs ?_
    show _ = match true && (true && (l1.all (wvQ e) && (wvL e l1).all cfB)) with | true => _ | false => _
    unfold wvL
    cases l1.all (wvQ e)
    · rfl
    · cases (l1.map (wvV e)).all cfB <;> rfl
  · have hi := xM hx
    have hap : zH true out.length 1 out.length 1 (out.length + 1) 8 = true := apc rfl (by omega) (by decide)
    rw [ahK, dlt hi, din hi, ix, hx]
    try dsimp only
    unfold wvQ wvV
    cases gtB e x
    · cases ltB e x
      · try dsimp only [Bool.false_or]
        rw [ar7]
        try rfl
      · try dsimp only
        rw [hap, wr (show i < 2147483648 by omega)]
        try dsimp only
        rw [List.length_append]
        rfl
    · try dsimp only
      rw [hap, wr (show i < 2147483648 by omega)]
      try dsimp only
      rw [List.length_append]
      rfl
  · rw [ahK, dge (Nat.le_refl _)]
    try dsimp only
    rw [ar8, decide_eq_true (show out.length = out.length ∧ out.length < 2147483648 from ⟨rfl, by omega⟩)]
    cases out.all cfB <;> rfl
theorem ad3 : FnT Try.prog 69 (ag7 .f64 .u64) := ag8 Try.func69 (by decide) (by rfl) (by rfl) (by rfl)
theorem yI : FnT Try.prog 65 (adO .f64 .u64) := ag9 Try.func65 (by decide) (by rfl) (by rfl) (by rfl)
def aoG : Fns := gX [(69, (ag7 .f64 .u64)), (65, (adO .f64 .u64))]
theorem ar9 : ∀ f, FnT Try.prog f (aoG f) := (aC (k := 69) ad3 (aC (k := 65) yI bJ))
theorem aGN (N : Nat) (x : Nat) : run ty aoG fB N Try.f66 [.fl .f64 x] []
    = (match !isN .f64 x with | true => some (.fl .f64 (canon .f64 (IntKind.u64.wrap (BitVec.ofInt 64 ((x : Nat) : Int) &&& ~~~ BitVec.ofInt 64 9223372036854775808).toNat).toNat), []) | false => none) := by
  kernel_rfl
def OD (x : Nat) : Nat := x % 9223372036854775808
theorem aGO (x : Nat) : (BitVec.ofInt 64 ((x : Nat) : Int) &&& ~~~ BitVec.ofInt 64 9223372036854775808).toNat = OD x := by
  have h1 : (~~~ BitVec.ofInt 64 9223372036854775808) = BitVec.ofNat 64 (2 ^ 63 - 1) := by decide
  rw [h1, BitVec.toNat_and, BitVec.ofInt_natCast, BitVec.toNat_ofNat, BitVec.toNat_ofNat]
  rw [show (2 ^ 63 - 1) % 2 ^ 64 = 2 ^ 63 - 1 by decide, Nat.and_two_pow_sub_one_eq_mod]
  unfold OD
  rw [show (2 : Nat) ^ 63 = 9223372036854775808 by decide, show (2 : Nat) ^ 64 = 18446744073709551616 by decide]
  omega
theorem aGP {x : Nat} {s : Bool} {m : Nat} {e : Int} (h : Ieee.double.read x = .number s m e) : Ieee.double.read (OD x) = .number false m e := by
  have c1 : Ieee.double.signWeight = 9223372036854775808 := by decide
  unfold Ieee.Format.read at h ⊢
  rw [c1] at h ⊢
  unfold OD
  rw [Nat.mod_mod, Nat.div_eq_of_lt (Nat.mod_lt x (by decide))]
  generalize (x / 9223372036854775808 % 2 == 1) = b at *
  generalize x % 9223372036854775808 = r at *
  dsimp only at h ⊢
  split at h
  · rename_i hr
    rw [if_pos hr]
    cases h
    rfl
  · rename_i hr
    rw [if_neg hr]
    split at h
    · rename_i hr2
      rw [if_pos hr2]
      cases h
      rfl
    · split at h <;> cases h
theorem aOD (x : Nat) : isN .f64 (OD x) = isN .f64 x := by
  rw [OV, OV]
  unfold OD
  have : sgn .f64 = 9223372036854775808 := by decide
  rw [this, Nat.mod_mod]
def aVA : GT := fun vs h => match vs, h with | [.fl .f64 x], [] => .ite (!isN .f64 x) (.ret (.fl .f64 (OD x)) []) .no | _, _ => .no
theorem aOE : FnT Try.prog 66 aVA := by
  refine fnT ar9 Try.func66 rfl rfl fB fun vs h v h' e => ⟨0, ?_⟩
  unfold aVA at e
  split at e
  case h_2 => exact (T.no_inv e).elim
  rename_i x
  obtain ⟨hx, e⟩ := T.pre_inv e
  obtain ⟨rfl, rfl⟩ := T.ret_inv e
  refine Eq.trans (aGN 0 x) ?_
  have hlt : OD x < 9223372036854775808 := Nat.mod_lt _ (by decide)
  have hw : IntKind.u64.wrap ((OD x : Nat) : Int) = ((OD x : Nat) : Int) := by
    simp only [IntKind.wrap, IntKind.signed, IntKind.bits]
    first | omega | (simp; omega)
  rw [hx, aGO, hw, Int.toNat_natCast, iV (b := OD x) (by rw [aOD]; simpa using hx)]
theorem ajU : FnT Try.prog 71 (O3 .zero) := aF5 Try.func71 (by decide) (by rfl) (by rfl) (by rfl)
def ad4 : Fns := gX [(71, (O3 .zero))]
theorem ajV : ∀ f, FnT Try.prog f (ad4 f) := (aC (k := 71) ajU bJ)
theorem asA (N : Nat) (x : Nat) : run ty ad4 fB N Try.f67 [.fl .f64 x] []
    = some (.fl .f64 (qK .zero x), []) := by
  kernel_rfl
theorem aAO : FnT Try.prog 67 (O3 .zero) := by
  refine fnT ajV Try.func67 rfl rfl fB fun vs h v h' e => ⟨0, ?_⟩
  unfold O3 at e
  split at e
  case h_2 => exact (T.no_inv e).elim
  obtain ⟨rfl, rfl⟩ := T.ret_inv e
  exact asA 0 _
def aoH : Fns := gX [(67, (O3 .zero))]
theorem asB : ∀ f, FnT Try.prog f (aoH f) := (aC (k := 67) aAO bJ)
theorem aGQ (N : Nat) (x : Nat) : run ty aoH fB N Try.f56 [.fl .f64 x] []
    = (match eqD (qK .zero x) 0 with | true => (match ltD (fop .sub .f64 x 0) 0 with | true => some (.fl .f64 (fop .add .f64 (fop .sub .f64 x 0) 4607182418800017408), []) | false => some (.fl .f64 (fop .sub .f64 x 0), [])) | false => (match ltD (fop .sub .f64 x (qK .zero x)) 0 with | true => some (.fl .f64 (fop .add .f64 (fop .sub .f64 x (qK .zero x)) 4607182418800017408), []) | false => some (.fl .f64 (fop .sub .f64 x (qK .zero x)), []))) := by
  kernel_rfl
def axH : GT := fun vs h => match vs, h with | [.fl .f64 x], [] => .ite (smB x) (.ret (.fl .f64 (fK x)) []) .no | _, _ => .no
theorem axI : FnT Try.prog 56 axH := by
  refine fnT asB Try.func56 rfl rfl fB fun vs h v h' e => ⟨0, ?_⟩
  unfold axH at e
  split at e
  case h_2 => exact (T.no_inv e).elim
  rename_i x
  obtain ⟨hx, e⟩ := T.pre_inv e
  obtain ⟨rfl, rfl⟩ := T.ret_inv e
  refine Eq.trans (aGQ 0 x) ?_
  have hw := aF9 hx
  cases he : eqD (qK .zero x) 0 with
  | true =>
    rw [he] at hw
    have hw : 0 = AY x := hw
    unfold fK
    rw [← hw]
    cases ltD (fop .sub .f64 x 0) 0 <;> rfl
  | false =>
    rw [he] at hw
    have hw : qK .zero x = AY x := hw
    unfold fK
    rw [← hw]
    cases ltD (fop .sub .f64 x (qK .zero x)) 0 <;> rfl
def axJ : Fns := gX [(65, (adO .f64 .u64))]
theorem aAP : ∀ f, FnT Try.prog f (axJ f) := (aC (k := 65) yI bJ)
theorem aOF (N : Nat)  : run ty axJ fB N Try.f54 [] []
    = some (.fl .f64 9221120237041090560, []) := by
  kernel_rfl
def aGR : GT := fun vs h => match vs, h with | [], [] => .ret (.fl .f64 9221120237041090560) [] | _, _ => .no
theorem aVB : FnT Try.prog 54 aGR := by
  refine fnT aAP Try.func54 rfl rfl fB fun vs h v h' e => ⟨0, ?_⟩
  unfold aGR at e
  split at e
  case h_2 => exact (T.no_inv e).elim
  obtain ⟨rfl, rfl⟩ := T.ret_inv e
  exact Eq.trans (aOF 0) (by kernel_rfl)
def aoI : Fns := gX [(66, aVA)]
theorem asC : ∀ f, FnT Try.prog f (aoI f) := (aC (k := 66) aOE bJ)
theorem aGS (N : Nat) (x : Nat) : run ty aoI fB N Try.f55 [.fl .f64 x] []
    = (match !isN .f64 x with | true => some (.bool (gtD (OD x) 4841369599423283200 || eqD (OD x) 4841369599423283200), []) | false => none) := by
  kernel_rfl
def axK (x : Nat) : Bool := gtD (OD x) 4841369599423283200 || eqD (OD x) 4841369599423283200
def aGT : GT := fun vs h => match vs, h with | [.fl .f64 x], [] => .ite (!isN .f64 x) (.ret (.bool (axK x)) []) .no | _, _ => .no
theorem aOG : FnT Try.prog 55 aGT := by
  refine fnT asC Try.func55 rfl rfl fB fun vs h v h' e => ⟨0, ?_⟩
  unfold aGT at e
  split at e
  case h_2 => exact (T.no_inv e).elim
  rename_i x
  obtain ⟨hx, e⟩ := T.pre_inv e
  obtain ⟨rfl, rfl⟩ := T.ret_inv e
  refine Eq.trans (aGS 0 x) ?_
  rw [hx]
  rfl
theorem aOH {x : Nat} (h : adW x = true) : axK x = !smB x := by
  obtain ⟨s, m, p, hx⟩ := an6 h
  obtain ⟨h0, h1, h2, _⟩ := kT hx
  have hs : smB x = decide (p < 0) := by unfold smB; rw [hx]
  have of := acA (aGP hx) (r52 false) h0 (by decide)
  have of : FloatKind.f64.format.order (OD x) 4841369599423283200 = _ := of
  obtain ⟨f1, f2, f3⟩ := aYJ (s := false) h0 h1 h2 false
  unfold axK gtD eqD
  rw [of, hs]
  by_cases hp : p < 0
  · rw [f1 hp, decide_eq_true hp]
    rfl
  · rw [decide_eq_false hp]
    have := f2 hp rfl
    cases hc : compare (Zv false m p) (Zv false 4503599627370496 0) with
    | lt => exact (this hc).elim
    | eq => simp
    | gt => simp
theorem aOI {x : Nat} (h : adW x = true) : isN .f64 x = false := by
  obtain ⟨s, m, p, hx⟩ := an6 h
  unfold isN
  show (Ieee.double.read x).isNaN = false
  rw [hx]
  rfl
def aGU : GT := fun vs h => match vs, h with | [.fl .f64 x], [] => .ite (smB x) (.ret (.fl .f64 (OB x)) []) .no | _, _ => .no
def ahL : Fns := gX [(56, axH)]
theorem aoJ : ∀ f, FnT Try.prog f (ahL f) := (aC (k := 56) axI bJ)
theorem aAQ (N : Nat) (x : Nat) : run ty ahL fB (N + 12) Try.f57 [.fl .f64 x] []
    = (match smB x with | true => (match gtD (fK x) 4602678819172646912 || eqD (fK x) 4602678819172646912 with | true => (match gtD (fop .sub .f64 (fK x) 4602678819172646912) 4598175219545276416 with | true => some (.fl .f64 (I5 .f64 (fop .mul .f64 (fop .mul .f64 (fop .sub .f64 4602678819172646912 (fop .sub .f64 (fK x) 4602678819172646912)) 4618760256179416344) (fop .sub .f64 4607182418800017408 (fop .quo .f64 (fop .mul .f64 (fop .mul .f64 (fop .mul .f64 (fop .sub .f64 4602678819172646912 (fop .sub .f64 (fK x) 4602678819172646912)) 4618760256179416344) (fop .mul .f64 (fop .sub .f64 4602678819172646912 (fop .sub .f64 (fK x) 4602678819172646912)) 4618760256179416344)) (fop .sub .f64 4607182418800017408 (fop .quo .f64 (fop .mul .f64 (fop .mul .f64 (fop .mul .f64 (fop .sub .f64 4602678819172646912 (fop .sub .f64 (fK x) 4602678819172646912)) 4618760256179416344) (fop .mul .f64 (fop .sub .f64 4602678819172646912 (fop .sub .f64 (fK x) 4602678819172646912)) 4618760256179416344)) (fop .sub .f64 4607182418800017408 (fop .quo .f64 (fop .mul .f64 (fop .mul .f64 (fop .mul .f64 (fop .sub .f64 4602678819172646912 (fop .sub .f64 (fK x) 4602678819172646912)) 4618760256179416344) (fop .mul .f64 (fop .sub .f64 4602678819172646912 (fop .sub .f64 (fK x) 4602678819172646912)) 4618760256179416344)) (fop .sub .f64 4607182418800017408 (fop .quo .f64 (fop .mul .f64 (fop .mul .f64 (fop .mul .f64 (fop .sub .f64 4602678819172646912 (fop .sub .f64 (fK x) 4602678819172646912)) 4618760256179416344) (fop .mul .f64 (fop .sub .f64 4602678819172646912 (fop .sub .f64 (fK x) 4602678819172646912)) 4618760256179416344)) (fop .sub .f64 4607182418800017408 (fop .quo .f64 (fop .mul .f64 (fop .mul .f64 (fop .mul .f64 (fop .sub .f64 4602678819172646912 (fop .sub .f64 (fK x) 4602678819172646912)) 4618760256179416344) (fop .mul .f64 (fop .sub .f64 4602678819172646912 (fop .sub .f64 (fK x) 4602678819172646912)) 4618760256179416344)) (fop .sub .f64 4607182418800017408 (fop .quo .f64 (fop .mul .f64 (fop .mul .f64 (fop .mul .f64 (fop .sub .f64 4602678819172646912 (fop .sub .f64 (fK x) 4602678819172646912)) 4618760256179416344) (fop .mul .f64 (fop .sub .f64 4602678819172646912 (fop .sub .f64 (fK x) 4602678819172646912)) 4618760256179416344)) (fop .sub .f64 4607182418800017408 (fop .quo .f64 (fop .mul .f64 (fop .mul .f64 (fop .mul .f64 (fop .sub .f64 4602678819172646912 (fop .sub .f64 (fK x) 4602678819172646912)) 4618760256179416344) (fop .mul .f64 (fop .sub .f64 4602678819172646912 (fop .sub .f64 (fK x) 4602678819172646912)) 4618760256179416344)) (fop .sub .f64 4607182418800017408 (fop .quo .f64 (fop .mul .f64 (fop .mul .f64 (fop .mul .f64 (fop .sub .f64 4602678819172646912 (fop .sub .f64 (fK x) 4602678819172646912)) 4618760256179416344) (fop .mul .f64 (fop .sub .f64 4602678819172646912 (fop .sub .f64 (fK x) 4602678819172646912)) 4618760256179416344)) 4607182418800017408) 4643492690795692032))) 4641592734702895104))) 4639692778610098176))) 4637440978796412928))) 4634766966517661696))) 4631107791820423168))) 4626322717216342016))) 4618441417868443648)))), []) | false => some (.fl .f64 (I5 .f64 (fop .mul .f64 (fop .mul .f64 (fop .sub .f64 (fK x) 4602678819172646912) 4618760256179416344) (fop .sub .f64 4607182418800017408 (fop .quo .f64 (fop .mul .f64 (fop .mul .f64 (fop .mul .f64 (fop .sub .f64 (fK x) 4602678819172646912) 4618760256179416344) (fop .mul .f64 (fop .sub .f64 (fK x) 4602678819172646912) 4618760256179416344)) (fop .sub .f64 4607182418800017408 (fop .quo .f64 (fop .mul .f64 (fop .mul .f64 (fop .mul .f64 (fop .sub .f64 (fK x) 4602678819172646912) 4618760256179416344) (fop .mul .f64 (fop .sub .f64 (fK x) 4602678819172646912) 4618760256179416344)) (fop .sub .f64 4607182418800017408 (fop .quo .f64 (fop .mul .f64 (fop .mul .f64 (fop .mul .f64 (fop .sub .f64 (fK x) 4602678819172646912) 4618760256179416344) (fop .mul .f64 (fop .sub .f64 (fK x) 4602678819172646912) 4618760256179416344)) (fop .sub .f64 4607182418800017408 (fop .quo .f64 (fop .mul .f64 (fop .mul .f64 (fop .mul .f64 (fop .sub .f64 (fK x) 4602678819172646912) 4618760256179416344) (fop .mul .f64 (fop .sub .f64 (fK x) 4602678819172646912) 4618760256179416344)) (fop .sub .f64 4607182418800017408 (fop .quo .f64 (fop .mul .f64 (fop .mul .f64 (fop .mul .f64 (fop .sub .f64 (fK x) 4602678819172646912) 4618760256179416344) (fop .mul .f64 (fop .sub .f64 (fK x) 4602678819172646912) 4618760256179416344)) (fop .sub .f64 4607182418800017408 (fop .quo .f64 (fop .mul .f64 (fop .mul .f64 (fop .mul .f64 (fop .sub .f64 (fK x) 4602678819172646912) 4618760256179416344) (fop .mul .f64 (fop .sub .f64 (fK x) 4602678819172646912) 4618760256179416344)) (fop .sub .f64 4607182418800017408 (fop .quo .f64 (fop .mul .f64 (fop .mul .f64 (fop .mul .f64 (fop .sub .f64 (fK x) 4602678819172646912) 4618760256179416344) (fop .mul .f64 (fop .sub .f64 (fK x) 4602678819172646912) 4618760256179416344)) (fop .sub .f64 4607182418800017408 (fop .quo .f64 (fop .mul .f64 (fop .mul .f64 (fop .mul .f64 (fop .sub .f64 (fK x) 4602678819172646912) 4618760256179416344) (fop .mul .f64 (fop .sub .f64 (fK x) 4602678819172646912) 4618760256179416344)) 4607182418800017408) 4643492690795692032))) 4641592734702895104))) 4639692778610098176))) 4637440978796412928))) 4634766966517661696))) 4631107791820423168))) 4626322717216342016))) 4618441417868443648)))), [])) | false => (match gtD (fK x) 4598175219545276416 with | true => some (.fl .f64 (fop .mul .f64 (fop .mul .f64 (fop .sub .f64 4602678819172646912 (fK x)) 4618760256179416344) (fop .sub .f64 4607182418800017408 (fop .quo .f64 (fop .mul .f64 (fop .mul .f64 (fop .mul .f64 (fop .sub .f64 4602678819172646912 (fK x)) 4618760256179416344) (fop .mul .f64 (fop .sub .f64 4602678819172646912 (fK x)) 4618760256179416344)) (fop .sub .f64 4607182418800017408 (fop .quo .f64 (fop .mul .f64 (fop .mul .f64 (fop .mul .f64 (fop .sub .f64 4602678819172646912 (fK x)) 4618760256179416344) (fop .mul .f64 (fop .sub .f64 4602678819172646912 (fK x)) 4618760256179416344)) (fop .sub .f64 4607182418800017408 (fop .quo .f64 (fop .mul .f64 (fop .mul .f64 (fop .mul .f64 (fop .sub .f64 4602678819172646912 (fK x)) 4618760256179416344) (fop .mul .f64 (fop .sub .f64 4602678819172646912 (fK x)) 4618760256179416344)) (fop .sub .f64 4607182418800017408 (fop .quo .f64 (fop .mul .f64 (fop .mul .f64 (fop .mul .f64 (fop .sub .f64 4602678819172646912 (fK x)) 4618760256179416344) (fop .mul .f64 (fop .sub .f64 4602678819172646912 (fK x)) 4618760256179416344)) (fop .sub .f64 4607182418800017408 (fop .quo .f64 (fop .mul .f64 (fop .mul .f64 (fop .mul .f64 (fop .sub .f64 4602678819172646912 (fK x)) 4618760256179416344) (fop .mul .f64 (fop .sub .f64 4602678819172646912 (fK x)) 4618760256179416344)) (fop .sub .f64 4607182418800017408 (fop .quo .f64 (fop .mul .f64 (fop .mul .f64 (fop .mul .f64 (fop .sub .f64 4602678819172646912 (fK x)) 4618760256179416344) (fop .mul .f64 (fop .sub .f64 4602678819172646912 (fK x)) 4618760256179416344)) (fop .sub .f64 4607182418800017408 (fop .quo .f64 (fop .mul .f64 (fop .mul .f64 (fop .mul .f64 (fop .sub .f64 4602678819172646912 (fK x)) 4618760256179416344) (fop .mul .f64 (fop .sub .f64 4602678819172646912 (fK x)) 4618760256179416344)) (fop .sub .f64 4607182418800017408 (fop .quo .f64 (fop .mul .f64 (fop .mul .f64 (fop .mul .f64 (fop .sub .f64 4602678819172646912 (fK x)) 4618760256179416344) (fop .mul .f64 (fop .sub .f64 4602678819172646912 (fK x)) 4618760256179416344)) 4607182418800017408) 4643492690795692032))) 4641592734702895104))) 4639692778610098176))) 4637440978796412928))) 4634766966517661696))) 4631107791820423168))) 4626322717216342016))) 4618441417868443648))), []) | false => some (.fl .f64 (fop .mul .f64 (fop .mul .f64 (fK x) 4618760256179416344) (fop .sub .f64 4607182418800017408 (fop .quo .f64 (fop .mul .f64 (fop .mul .f64 (fop .mul .f64 (fK x) 4618760256179416344) (fop .mul .f64 (fK x) 4618760256179416344)) (fop .sub .f64 4607182418800017408 (fop .quo .f64 (fop .mul .f64 (fop .mul .f64 (fop .mul .f64 (fK x) 4618760256179416344) (fop .mul .f64 (fK x) 4618760256179416344)) (fop .sub .f64 4607182418800017408 (fop .quo .f64 (fop .mul .f64 (fop .mul .f64 (fop .mul .f64 (fK x) 4618760256179416344) (fop .mul .f64 (fK x) 4618760256179416344)) (fop .sub .f64 4607182418800017408 (fop .quo .f64 (fop .mul .f64 (fop .mul .f64 (fop .mul .f64 (fK x) 4618760256179416344) (fop .mul .f64 (fK x) 4618760256179416344)) (fop .sub .f64 4607182418800017408 (fop .quo .f64 (fop .mul .f64 (fop .mul .f64 (fop .mul .f64 (fK x) 4618760256179416344) (fop .mul .f64 (fK x) 4618760256179416344)) (fop .sub .f64 4607182418800017408 (fop .quo .f64 (fop .mul .f64 (fop .mul .f64 (fop .mul .f64 (fK x) 4618760256179416344) (fop .mul .f64 (fK x) 4618760256179416344)) (fop .sub .f64 4607182418800017408 (fop .quo .f64 (fop .mul .f64 (fop .mul .f64 (fop .mul .f64 (fK x) 4618760256179416344) (fop .mul .f64 (fK x) 4618760256179416344)) (fop .sub .f64 4607182418800017408 (fop .quo .f64 (fop .mul .f64 (fop .mul .f64 (fop .mul .f64 (fK x) 4618760256179416344) (fop .mul .f64 (fK x) 4618760256179416344)) 4607182418800017408) 4643492690795692032))) 4641592734702895104))) 4639692778610098176))) 4637440978796412928))) 4634766966517661696))) 4631107791820423168))) 4626322717216342016))) 4618441417868443648))), []))) | false => none) := by
  kernel_rfl
theorem aGV : FnT Try.prog 57 aGU := by
  refine fnT aoJ Try.func57 rfl rfl fB fun vs h v h' e => ⟨12, ?_⟩
  unfold aGU at e
  split at e
  case h_2 => exact (T.no_inv e).elim
  rename_i x
  obtain ⟨hx, e⟩ := T.pre_inv e
  obtain ⟨rfl, rfl⟩ := T.ret_inv e
  refine Eq.trans (aAQ 0 x) ?_
  rw [hx]
  unfold OB aGD an9
  cases (gtD (fK x) 4602678819172646912 || eqD (fK x) 4602678819172646912)
  · cases gtD (fK x) 4598175219545276416 <;> (show _ = _; kernel_rfl)
  · cases gtD (fop .sub .f64 (fK x) 4602678819172646912) 4598175219545276416 <;> (show _ = _; kernel_rfl)
def gPh : GT := fun vs h => match vs, h with
  | [.fl .f64 x], [] => .ite (adW x) (.ite (smB x) (.ret (.cx .f32 (nr (phX x)) (nr (phY x))) []) (.ret (.cx .f32 1065353216 0) [])) (.ret (.cx .f32 2143289344 2143289344) [])
  | _, _ => .no
theorem uK {y : Nat} (h : oU 50 y) : aUA y = true := by unfold aUA; rw [RF h]; rfl
theorem ajW (y : Nat) : nar y = nr y := rfl
def ajX : Ann := ⟨fun r => if r = 7 then some ([4, 5], [4, 5]) else none, fun _ _ => .quiet⟩
def acI : Fns := gX [(54, aGR), (55, aGT), (56, axH), (57, aGU)]
theorem aAR : ∀ f, FnT Try.prog f (acI f) := (aC (k := 54) aVB (aC (k := 55) aOG (aC (k := 56) axI (aC (k := 57) aGV bJ))))
def acJ (f4 : Nat) (q5 : Int) : St := ⟨(.any :: .any :: .any :: .any :: .fl .f64 f4 :: .int .i64 q5 :: (fE 50 [])), []⟩
abbrev aOJ : Option (List Nat × List Nat) := some ([4, 5], [4, 5])
noncomputable def acK {R : Type} (N M : Nat) (s : St) (K : X → St → Option R) : Option R := pO 0 aOJ (fun st K => exec ty acI ajX N 0 (oD [true, true, true, true, false, false, false] Try.f36) st K) M s K
noncomputable def acL {R : Type} (N : Nat) (K : X → St → Option R) : X → St → Option R := rF 1 (yS acI ajX N 0 (oD [true, true, true, true, true] Try.f36) (K))
def Y8 (f4 : Nat) (q5 : Int) : St := ⟨(.any :: .any :: .any :: .any :: .fl .f64 f4 :: .int .i64 q5 :: (fE 50 [])), []⟩
theorem aOK (N : Nat) (x : Nat) : run ty acI ajX N Try.f36 [.fl .f64 x] []
    = (match FloatKind.f64.format.order (fop .sub .f64 x x) 0 != some .eq with | true => some (.cx .f32 2143289344 2143289344, []) | false => (match !isN .f64 x with | true => (match axK x with | true => some (.cx .f32 1065353216 0, []) | false => (match smB x with | true => acK N N (acJ (fK x) 0) (acL N (mF Try.f36 0)) | false => none)) | false => none)) := by
  kernel_rfl
theorem ahM {R : Type} (N M : Nat) (K : X → St → Option R) (f4 : Nat) (q5 : Int) : acK N (M + 1) (acJ f4 q5) K
    = (match gtD f4 4598175219545276416 || eqD f4 4598175219545276416 with | true => acK N M (acJ (fop .sub .f64 f4 4598175219545276416) (IntKind.i64.wrap (q5 + 1))) K | false => K (.exit 1) (Y8 f4 q5)) := by
  kernel_rfl
theorem asD (N : Nat) (f4 : Nat) (q5 : Int) : acL N (mF Try.f36 0) (.exit 1) (Y8 f4 q5)
    = (match smB (fop .sub .f64 4598175219545276416 f4) with | true => (match smB f4 with | true => (match q5 == 1 with | true => (match fF .f64 (fop .sub .f64 0 (OB f4)) .f32 with | some c1 => (match fF .f64 (OB (fop .sub .f64 4598175219545276416 f4)) .f32 with | some c2 => some (.cx .f32 c1 c2, []) | none => none) | none => none) | false => (match q5 == 2 with | true => (match fF .f64 (fop .sub .f64 0 (OB (fop .sub .f64 4598175219545276416 f4))) .f32 with | some c3 => (match fF .f64 (fop .sub .f64 0 (OB f4)) .f32 with | some c4 => some (.cx .f32 c3 c4, []) | none => none) | none => none) | false => (match q5 == 3 with | true => (match fF .f64 (OB f4) .f32 with | some c5 => (match fF .f64 (fop .sub .f64 0 (OB (fop .sub .f64 4598175219545276416 f4))) .f32 with | some c6 => some (.cx .f32 c5 c6, []) | none => none) | none => none) | false => (match fF .f64 (OB (fop .sub .f64 4598175219545276416 f4)) .f32 with | some c7 => (match fF .f64 (OB f4) .f32 with | some c8 => some (.cx .f32 c7 c8, []) | none => none) | none => none)))) | false => none) | false => none) := by
  kernel_rfl
theorem aVC : FnT Try.prog 36 gPh := by
  refine fnT aAR Try.func36 rfl rfl ajX fun vs h v h' e => ⟨10, ?_⟩
  unfold gPh at e
  split at e
  case h_2 => exact (T.no_inv e).elim
  rename_i x
  refine Eq.trans (aOK 10 x) (Eq.trans ?_ e)
  clear e
  show _ = T.k _ _
  simp only [T.k]
  rw [aF8]
  cases hf : adW x with
  | false => rfl
  | true =>
    dsimp only [Bool.not_true]
    rw [aOI hf, aOH hf]
    cases hs : smB x with
    | false => rfl
    | true =>
      dsimp only [Bool.not_true, Bool.not_false]
      have hq := aGC (fun M (f : Nat) (q : Int) => acK 10 M (acJ f q) (acL 10 (mF Try.f36 0))) (fun f q => acL 10 (mF Try.f36 0) (.exit 1) (Y8 f q)) (fun M f q hg h0 h1 => by
        have hg : (gtD f 4598175219545276416 || eqD f 4598175219545276416) = true := hg
        simp only [ahM, hg, kP (n := q + 1) (by omega) (by omega)]) (fun M f q hg h0 h1 => by
        have hg : (gtD f 4598175219545276416 || eqD f 4598175219545276416) = false := hg
        simp only [ahM, hg]) 4 _ (aGB (ajQ hs)) 0 5 (by decide) (by decide)
      refine Eq.trans hq ?_
      rw [Int.zero_add]
      obtain ⟨hs1, hs2⟩ := aGE hs
      obtain ⟨bc, bs, bnc, bns⟩ := aU6 hs
      have bc := bc.mono (show (48 : Int) ≤ 50 by decide)
      have bs := bs.mono (show (48 : Int) ≤ 50 by decide)
      have e1 : (qF 4 (fK x)).1 = phF x := rfl
      have e2 : (qF 4 (fK x)).2 = phQ x := rfl
      have ec : OB (fop .sub .f64 4598175219545276416 (phF x)) = phC x := rfl
      have es : OB (phF x) = phS x := rfl
      rw [e1, e2, asD, hs1, hs2]
      simp only [ec, es]
      unfold phX phY
      cases phQ x == 1
      · cases phQ x == 2
        · cases phQ x == 3
          · simp only [RF bc, RF bs, uK bc, uK bs, ajW]
          · simp only [RF bs, RF bnc, uK bs, uK bnc, ajW]
        · simp only [RF bnc, RF bns, uK bnc, uK bns, ajW]
      · simp only [RF bns, RF bc, uK bns, uK bc, ajW]
theorem aAS : FnT Try.prog 65 (adO .f64 .u64) := ag9 Try.func65 (by decide) (by rfl) (by rfl) (by rfl)
def aGW : GT := fun vs h => match vs, h with | [.int .i64 1], [] => .ret (.fl .f64 9218868437227405312) [] | _, _ => .no
def aoK : Fns := gX [(65, (adO .f64 .u64))]
theorem asE : ∀ f, FnT Try.prog f (aoK f) := (aC (k := 65) aAS bJ)
theorem aGX (N : Nat)  : run ty aoK fB N Try.f68 [.int .i64 1] []
    = some (.fl .f64 9218868437227405312, []) := by
  kernel_rfl
theorem aOL : FnT Try.prog 68 (aGW) := by
  refine fnT asE Try.func68 rfl rfl fB fun vs h v h' e => ⟨0, ?_⟩
  unfold aGW at e
  split at e
  case h_2 => exact (T.no_inv e).elim
  obtain ⟨rfl, rfl⟩ := T.ret_inv e
  exact aGX 0
def gED : G := fun vs h => match vs, h with | [.fl .f64 x], [] => some (.fl .f64 (anZ x), []) | _, _ => none
def aVD : GT := fun vs h => match vs, h with | [.fl .f32 x], [] => .ite (adP x) (.ret (.fl .f32 (an0 x)) []) .no | _, _ => .no
def IY : Fns := gX [(68, aGW)]
theorem RQ : ∀ f, FnT Try.prog f (IY f) := (aC (k := 68) aOL bJ)
theorem abX (N : Nat) (x : Nat) : run ty IY fB (N + 20) Try.f58 [.fl .f64 x] []
    = (match gtD x 4641240890982006784 with | true => some (.fl .f64 9218868437227405312, []) | false => (match ltD x 13864612927836782592 with | true => some (.fl .f64 0, []) | false => some (.fl .f64 (aYH x), []))) := by
  kernel_rfl
theorem ad5 : FnT Try.prog 58 (gT gED) := by
  refine fnT RQ Try.func58 rfl rfl fB fun vs h v h' e => ⟨20, ?_⟩
  rw [T.run_of] at e
  unfold gED at e
  split at e
  case h_2 => cases e
  rename_i x
  cases e
  refine Eq.trans (abX 0 x) ?_
  show _ = some (V.fl .f64 (anZ x), [])
  unfold anZ
  cases gtD x 4641240890982006784 <;> cases ltD x 13864612927836782592 <;> rfl
def OO : Fns := gX [(58, gT gED)]
theorem abY : ∀ f, FnT Try.prog f (OO f) := (aC (k := 58) ad5 bJ)
theorem agM (N : Nat) (x : Nat) : run ty OO fB N Try.f37 [.fl .f32 x] []
    = (match fF .f32 x .f64 with | some c1 => (match fF .f64 (anZ c1) .f32 with | some c2 => some (.fl .f32 c2, []) | none => none) | none => none) := by
  kernel_rfl
theorem ajY : FnT Try.prog 37 (aVD) := by
  refine fnT abY Try.func37 rfl rfl fB fun vs h v h' e => ⟨0, ?_⟩
  unfold aVD at e
  split at e
  case h_2 => exact (T.no_inv e).elim
  rename_i x
  obtain ⟨hx, e⟩ := T.pre_inv e
  obtain ⟨rfl, rfl⟩ := T.ret_inv e
  refine Eq.trans (agM 0 x) ?_
  simp only [lU]
  have hx' : (fF .f64 (anZ (up x)) .f32).isSome = true := hx
  unfold an0
  cases hy : fF .f64 (anZ (up x)) .f32 with
  | none => rw [hy] at hx'; cases hx'
  | some y => rfl
structure Fm (f : Ieee.Format) (F : Nat) (L : Int) (Z : Nat) : Prop where
  frac : f.fractionBits = F
  least : f.leastPlace = L
  bin : f.binade = 2 ^ F
  inf : f.infRung = Z * 2 ^ F
  sgn : Z * 2 ^ F < f.signWeight
  two : 2 < Z
theorem aGY : Fm Ieee.single 23 (-149) 255 := ⟨by decide, by decide, by decide, by decide, by decide, by decide⟩
theorem aAT : Fm Ieee.double 52 (-1074) 2047 := ⟨by decide, by decide, by decide, by decide, by decide, by decide⟩
theorem AZ {f : Ieee.Format} (s : Bool) {r : Nat} (h : r < f.signWeight) : f.read (f.word s r) =
    if r < f.binade then .number s r f.leastPlace else if r < f.infRung then .number s (f.binade + r % f.binade) (f.leastPlace + ((r / f.binade - 1 : Nat) : Int)) else if r = f.infRung then .infinity s else .nan s (r - f.infRung) := by
  unfold Ieee.Format.read Ieee.Format.word
  have hm : (if s = true then f.signWeight + r else r) % f.signWeight = r := by
    cases s
    · rw [if_neg (by decide), Nat.mod_eq_of_lt h]
    · rw [if_pos rfl, Nat.add_mod_left, Nat.mod_eq_of_lt h]
  have hs : ((if s = true then f.signWeight + r else r) / f.signWeight % 2 == 1) = s := by
    cases s
    · rw [if_neg (by decide), Nat.div_eq_of_lt h]; rfl
    · rw [if_pos rfl, Nat.add_div_left _ (by omega), Nat.div_eq_of_lt h]; rfl
  rw [hm, hs]
theorem axL (s : Bool) (n d : Nat) : 2 * (((Ieee.Toward.even.cut s n d * 2 ^ d : Nat) : Int) - (n : Int)).natAbs ≤ 2 ^ d := by
  unfold Ieee.Toward.cut
  simp only [Nat.one_shiftLeft]
  by_cases hd : d ≤ n.log2 + 2
  · rw [Nat.min_eq_left hd]
    have hpos : 0 < 2 ^ d := Nat.pow_pos (by decide)
    generalize hg : 2 ^ d = g at hpos
    have hn := Nat.div_add_mod n g
    have hr := Nat.mod_lt n hpos
    generalize n / g = lo at hn
    generalize n % g = r at hn hr
    have hn' : n = lo * g + r := by rw [Nat.mul_comm]; exact hn.symm
    generalize hlg : lo * g = q at hn'
    by_cases hm : (decide (g < 2 * r) || (g == 2 * r && lo % 2 == 1)) = true
    · rw [hm]
      have h2 : g ≤ 2 * r := by
        rw [Bool.or_eq_true] at hm
        rcases hm with hm | hm
        · have := of_decide_eq_true hm; omega
        · rw [Bool.and_eq_true] at hm
          have := eq_of_beq hm.1
          omega
      have e : (lo + Bool.toNat true) * g = q + g := by rw [← hlg]; show (lo + 1) * g = _; rw [Nat.add_mul, Nat.one_mul]
      rw [e]
      omega
    · have hm : (decide (g < 2 * r) || (g == 2 * r && lo % 2 == 1)) = false := by simpa using hm
      rw [hm]
      have h2 : ¬ g < 2 * r := by
        rw [Bool.or_eq_false_iff] at hm
        exact of_decide_eq_false hm.1
      have e : (lo + Bool.toNat false) * g = q := by rw [← hlg]; rfl
      rw [e]
      omega
  · rw [Nat.min_eq_right (by omega)]
    have h1 : n < 2 ^ (n.log2 + 1) := Nat.lt_log2_self
    have h2 : 2 ^ (n.log2 + 2) = 2 * 2 ^ (n.log2 + 1) := by rw [show n.log2 + 2 = (n.log2 + 1) + 1 by omega, Nat.pow_succ, Nat.mul_comm]
    have h3 : 2 ^ (n.log2 + 2) ≤ 2 ^ d := Nat.pow_le_pow_right (by decide) (by omega)
    generalize 2 ^ (n.log2 + 2) = g at h2 h3
    generalize 2 ^ (n.log2 + 1) = c at h1 h2
    have hlo : n / g = 0 := Nat.div_eq_of_lt (by omega)
    have hr : n % g = n := Nat.mod_eq_of_lt (by omega)
    rw [hlo, hr]
    have e1 : decide (g < 2 * n) = false := decide_eq_false (by omega)
    have e2 : (g == 2 * n) = false := by
      cases hb : g == 2 * n with
      | false => rfl
      | true => have := eq_of_beq hb; omega
    rw [e1, e2]
    show 2 * ((((0 + 0) * 2 ^ d : Nat) : Int) - (n : Int)).natAbs ≤ 2 ^ d
    generalize 2 ^ d = D at h3
    rw [Nat.zero_add, Nat.zero_mul]
    omega
theorem Y9 {f : Ieee.Format} {F : Nat} {L : Int} {Z : Nat} (h : Fm f F L Z) (s : Bool) {l K : Nat} (hK : K ≤ 2 * 2 ^ F) (hl : l = 0 ∨ 2 ^ F ≤ K) (hZ : l + 2 < Z) :
    ∃ (m : Nat) (j : Nat), f.read (f.word s (l * 2 ^ F + K)) = .number s m (L + (j : Int)) ∧ m * 2 ^ j = K * 2 ^ l := by
  have hpos : 0 < 2 ^ F := Nat.pow_pos (by decide)
  have hsg := h.sgn
  have hz : (l + 2) * 2 ^ F + 2 ^ F ≤ Z * 2 ^ F := by
    rw [← Nat.succ_mul]
    exact Nat.mul_le_mul_right _ hZ
  rw [Nat.add_mul] at hz
  have hlt : l * 2 ^ F + K < f.infRung := by rw [h.inf]; omega
  rw [AZ s (by rw [h.inf] at hlt; omega), h.bin, h.least]
  by_cases h1 : K < 2 ^ F
  · have h0 : l = 0 := by omega
    subst h0
    rw [Nat.zero_mul, Nat.zero_add, if_pos h1]
    exact ⟨K, 0, by simp, rfl⟩
  · have hge : ¬ l * 2 ^ F + K < 2 ^ F := by have := Nat.zero_le (l * 2 ^ F); omega
    rw [if_neg hge, if_pos hlt]
    by_cases h2 : K < 2 * 2 ^ F
    · have e1 : (l * 2 ^ F + K) / 2 ^ F = l + 1 := by
        rw [show l * 2 ^ F + K = (l + 1) * 2 ^ F + (K - 2 ^ F) by rw [Nat.add_mul, Nat.one_mul]; omega, Nat.mul_comm, Nat.mul_add_div hpos, Nat.div_eq_of_lt (by omega), Nat.add_zero]
      have e2 : (l * 2 ^ F + K) % 2 ^ F = K - 2 ^ F := by
        rw [show l * 2 ^ F + K = (l + 1) * 2 ^ F + (K - 2 ^ F) by rw [Nat.add_mul, Nat.one_mul]; omega, Nat.mul_comm, Nat.mul_add_mod, Nat.mod_eq_of_lt (by omega)]
      rw [e1, e2]
      exact ⟨K, l, by rw [show 2 ^ F + (K - 2 ^ F) = K by omega, show l + 1 - 1 = l by omega], rfl⟩
    · have hK2 : K = 2 * 2 ^ F := by omega
      subst hK2
      have e0 : l * 2 ^ F + 2 * 2 ^ F = 2 ^ F * (l + 2) := by rw [← Nat.add_mul, Nat.mul_comm]
      rw [e0, Nat.mul_div_cancel_left _ hpos, Nat.mul_mod_right, Nat.add_zero]
      refine ⟨2 ^ F, l + 1, by rw [show l + 2 - 1 = l + 1 by omega], ?_⟩
      rw [Nat.pow_succ, Nat.mul_comm 2 (2 ^ F), Nat.mul_assoc, Nat.mul_comm (2 ^ l) 2]
theorem aGZ {f : Ieee.Format} {F : Nat} {L : Int} {Z : Nat} (h : Fm f F L Z) (s : Bool) {m : Nat} {p B Q : Int} (hQ : Q ≤ p) (hQL : Q ≤ L) (hB : m = 0 ∨ p + (m.log2 : Int) < B) (hZ : B - (F : Int) - L + 2 ≤ (Z : Int)) :
    ∃ (m' : Nat) (p' : Int), f.read (f.nearest s m p) = .number s m' p' ∧ L ≤ p' ∧ 2 * (((m' * 2 ^ (p' - Q).toNat : Nat) : Int) - ((m * 2 ^ (p - Q).toNat : Nat) : Int)).natAbs ≤ 2 ^ (max (B - 1 - (F : Int)) L - Q).toNat := by
  have h2 := h.two
  by_cases hm : m = 0
  · subst hm
    unfold Ieee.Format.nearest
    rw [if_pos rfl]
    obtain ⟨m', j, h3, h4⟩ := Y9 h s (l := 0) (K := 0) (Nat.zero_le _) (.inl rfl) (by omega)
    rw [Nat.zero_mul, Nat.zero_add] at h3
    have hm' : m' = 0 := by
      rw [Nat.zero_mul] at h4
      rcases Nat.mul_eq_zero.1 h4 with h5 | h5
      · exact h5
      · have := Nat.pow_pos (n := j) (show 0 < 2 by decide); omega
    subst hm'
    refine ⟨0, _, h3, by omega, ?_⟩
    rw [Nat.zero_mul, Nat.zero_mul]
    simp
  · have hB := hB.resolve_left hm
    unfold Ieee.Format.nearest
    rw [if_neg hm, h.frac, h.least, h.bin, h.inf]
    dsimp only
    generalize hlast : max (p + (m.log2 : Int) - (F : Int)) L = last
    have hl1 : L ≤ last := by omega
    have hl2 : last ≤ max (B - 1 - (F : Int)) L := by omega
    obtain ⟨l, hl⟩ : ∃ l : Nat, last = L + (l : Int) := ⟨(last - L).toNat, by omega⟩
    have e1 : (last - L).toNat = l := by omega
    rw [e1]
    have hlog1 : 2 ^ m.log2 ≤ m := Nat.log2_self_le hm
    have hlog2 : m < 2 ^ (m.log2 + 1) := Nat.lt_log2_self
    generalize hkept : Ieee.Toward.even.cut s (m <<< (p - last).toNat) (last - p).toNat = K
    have herr : 2 * (((K * 2 ^ (last - Q).toNat : Nat) : Int) - ((m * 2 ^ (p - Q).toNat : Nat) : Int)).natAbs ≤ 2 ^ (last - Q).toNat ∧ K ≤ 2 * 2 ^ F ∧ (l = 0 ∨ 2 ^ F ≤ K) := by
      by_cases hle : last ≤ p
      · rw [show (last - p).toNat = 0 by omega, uH, Nat.shiftLeft_eq] at hkept
        have e2 : K * 2 ^ (last - Q).toNat = m * 2 ^ (p - Q).toNat := by
          rw [← hkept, Nat.mul_assoc, ← Nat.pow_add, show (p - last).toNat + (last - Q).toNat = (p - Q).toNat by omega]
        rw [e2, Int.sub_self]
        refine ⟨by simp, ?_, ?_⟩
        · have h3 : K < 2 ^ (m.log2 + 1) * 2 ^ (p - last).toNat := by rw [← hkept]; exact Nat.mul_lt_mul_of_pos_right hlog2 (Nat.pow_pos (by decide))
          rw [← Nat.pow_add] at h3
          have h4 : 2 ^ (m.log2 + 1 + (p - last).toNat) ≤ 2 ^ (F + 1) := Nat.pow_le_pow_right (by decide) (by omega)
          rw [Nat.pow_succ, Nat.mul_comm] at h4
          omega
        · by_cases h0 : l = 0
          · exact .inl h0
          · right
            have h3 : 2 ^ m.log2 * 2 ^ (p - last).toNat ≤ K := by rw [← hkept]; exact Nat.mul_le_mul_right _ hlog1
            rw [← Nat.pow_add, show m.log2 + (p - last).toNat = F by omega] at h3
            exact h3
      · rw [show (p - last).toNat = 0 by omega, Nat.shiftLeft_zero] at hkept
        have hc := axL s m (last - p).toNat
        rw [hkept] at hc
        generalize hd : (last - p).toNat = d at hc hkept
        have e2 : 2 ^ (last - Q).toNat = 2 ^ d * 2 ^ (p - Q).toNat := by rw [← Nat.pow_add, show d + (p - Q).toNat = (last - Q).toNat by omega]
        refine ⟨?_, ?_, ?_⟩
        · rw [e2, ← Nat.mul_assoc, Int.natCast_mul (K * 2 ^ d), Int.natCast_mul m, ← Int.sub_mul, Int.natAbs_mul, Int.natAbs_natCast, ← Nat.mul_assoc]
          exact Nat.mul_le_mul_right _ hc
        · have hle2 := ajH s m d
          rw [hkept] at hle2
          have h3 : m / 2 ^ d < 2 ^ (F + 1) := by
            rw [Nat.div_lt_iff_lt_mul (Nat.pow_pos (by decide)), ← Nat.pow_add]
            exact Nat.lt_of_lt_of_le hlog2 (Nat.pow_le_pow_right (by decide) (by omega))
          rw [Nat.pow_succ, Nat.mul_comm] at h3
          omega
        · by_cases h0 : l = 0
          · exact .inl h0
          · right
            have hld : m.log2 = F + d := by omega
            have h3 : 2 ^ F * 2 ^ d ≤ m := by rw [← Nat.pow_add, ← hld]; exact hlog1
            have hdp : 0 < 2 ^ d := Nat.pow_pos (by decide)
            generalize 2 ^ d = D at hc h3 hdp
            generalize 2 ^ F = G at h3
            refine Nat.le_of_not_lt fun hlt => ?_
            have h4 : (K + 1) * D ≤ G * D := Nat.mul_le_mul_right _ hlt
            rw [Nat.add_mul, Nat.one_mul] at h4
            omega
    obtain ⟨h3, h4, h5⟩ := herr
    have hl3 : l + 2 < Z := by omega
    obtain ⟨m', j, h6, h7⟩ := Y9 h s h4 h5 hl3
    have hmin : min (l * 2 ^ F + K) (Z * 2 ^ F) = l * 2 ^ F + K := by
      apply Nat.min_eq_left
      have : (l + 2) * 2 ^ F ≤ Z * 2 ^ F := Nat.mul_le_mul_right _ (by omega)
      rw [Nat.add_mul] at this
      omega
    rw [hmin]
    refine ⟨m', L + (j : Int), h6, by omega, ?_⟩
    have e3 : m' * 2 ^ (L + (j : Int) - Q).toNat = K * 2 ^ (last - Q).toNat := by
      rw [show (L + (j : Int) - Q).toNat = j + (L - Q).toNat by omega, Nat.pow_add, ← Nat.mul_assoc, h7, Nat.mul_assoc, ← Nat.pow_add, show l + (L - Q).toNat = (last - Q).toNat by omega]
    rw [e3]
    refine Nat.le_trans h3 (Nat.pow_le_pow_right (by decide) (by omega))
theorem ahN {f : Ieee.Format} {F : Nat} {L : Int} {Z : Nat} (h : Fm f F L Z) (s : Bool) {m : Nat} {p B Q : Int} (hQ : Q ≤ p) (hQL : Q ≤ L) (hm : m ≠ 0) (hB : m = 0 ∨ p + (m.log2 : Int) < B) (hZ : B - (F : Int) - L + 2 ≤ (Z : Int)) :
    ∃ (m' : Nat) (p' : Int) (K : Nat), f.read (f.nearest s m p) = .number s m' p' ∧ L ≤ p' ∧ m' * 2 ^ (p' - Q).toNat = K * 2 ^ (max (p + (m.log2 : Int) - (F : Int)) L - Q).toNat ∧
      2 * (((K * 2 ^ (max (p + (m.log2 : Int) - (F : Int)) L - Q).toNat : Nat) : Int) - ((m * 2 ^ (p - Q).toNat : Nat) : Int)).natAbs ≤ 2 ^ (max (p + (m.log2 : Int) - (F : Int)) L - Q).toNat := by
  have h2 := h.two
  have hB := hB.resolve_left hm
  unfold Ieee.Format.nearest
  rw [if_neg hm, h.frac, h.least, h.bin, h.inf]
  dsimp only
  generalize hlast : max (p + (m.log2 : Int) - (F : Int)) L = last
  have hl1 : L ≤ last := by omega
  have hl2 : last ≤ max (B - 1 - (F : Int)) L := by omega
  obtain ⟨l, hl⟩ : ∃ l : Nat, last = L + (l : Int) := ⟨(last - L).toNat, by omega⟩
  have e1 : (last - L).toNat = l := by omega
  rw [e1]
  have hlog1 : 2 ^ m.log2 ≤ m := Nat.log2_self_le hm
  have hlog2 : m < 2 ^ (m.log2 + 1) := Nat.lt_log2_self
  generalize hkept : Ieee.Toward.even.cut s (m <<< (p - last).toNat) (last - p).toNat = K
  have herr : 2 * (((K * 2 ^ (last - Q).toNat : Nat) : Int) - ((m * 2 ^ (p - Q).toNat : Nat) : Int)).natAbs ≤ 2 ^ (last - Q).toNat ∧ K ≤ 2 * 2 ^ F ∧ (l = 0 ∨ 2 ^ F ≤ K) := by
    by_cases hle : last ≤ p
    · rw [show (last - p).toNat = 0 by omega, uH, Nat.shiftLeft_eq] at hkept
      have e2 : K * 2 ^ (last - Q).toNat = m * 2 ^ (p - Q).toNat := by
        rw [← hkept, Nat.mul_assoc, ← Nat.pow_add, show (p - last).toNat + (last - Q).toNat = (p - Q).toNat by omega]
      rw [e2, Int.sub_self]
      refine ⟨by simp, ?_, ?_⟩
      · have h3 : K < 2 ^ (m.log2 + 1) * 2 ^ (p - last).toNat := by rw [← hkept]; exact Nat.mul_lt_mul_of_pos_right hlog2 (Nat.pow_pos (by decide))
        rw [← Nat.pow_add] at h3
        have h4 : 2 ^ (m.log2 + 1 + (p - last).toNat) ≤ 2 ^ (F + 1) := Nat.pow_le_pow_right (by decide) (by omega)
        rw [Nat.pow_succ, Nat.mul_comm] at h4
        omega
      · by_cases h0 : l = 0
        · exact .inl h0
        · right
          have h3 : 2 ^ m.log2 * 2 ^ (p - last).toNat ≤ K := by rw [← hkept]; exact Nat.mul_le_mul_right _ hlog1
          rw [← Nat.pow_add, show m.log2 + (p - last).toNat = F by omega] at h3
          exact h3
    · rw [show (p - last).toNat = 0 by omega, Nat.shiftLeft_zero] at hkept
      have hc := axL s m (last - p).toNat
      rw [hkept] at hc
      generalize hd : (last - p).toNat = d at hc hkept
      have e2 : 2 ^ (last - Q).toNat = 2 ^ d * 2 ^ (p - Q).toNat := by rw [← Nat.pow_add, show d + (p - Q).toNat = (last - Q).toNat by omega]
      refine ⟨?_, ?_, ?_⟩
      · rw [e2, ← Nat.mul_assoc, Int.natCast_mul (K * 2 ^ d), Int.natCast_mul m, ← Int.sub_mul, Int.natAbs_mul, Int.natAbs_natCast, ← Nat.mul_assoc]
        exact Nat.mul_le_mul_right _ hc
      · have hle2 := ajH s m d
        rw [hkept] at hle2
        have h3 : m / 2 ^ d < 2 ^ (F + 1) := by
          rw [Nat.div_lt_iff_lt_mul (Nat.pow_pos (by decide)), ← Nat.pow_add]
          exact Nat.lt_of_lt_of_le hlog2 (Nat.pow_le_pow_right (by decide) (by omega))
        rw [Nat.pow_succ, Nat.mul_comm] at h3
        omega
      · by_cases h0 : l = 0
        · exact .inl h0
        · right
          have hld : m.log2 = F + d := by omega
          have h3 : 2 ^ F * 2 ^ d ≤ m := by rw [← Nat.pow_add, ← hld]; exact hlog1
          have hdp : 0 < 2 ^ d := Nat.pow_pos (by decide)
          generalize 2 ^ d = D at hc h3 hdp
          generalize 2 ^ F = G at h3
          refine Nat.le_of_not_lt fun hlt => ?_
          have h4 : (K + 1) * D ≤ G * D := Nat.mul_le_mul_right _ hlt
          rw [Nat.add_mul, Nat.one_mul] at h4
          omega
  obtain ⟨h3, h4, h5⟩ := herr
  have hl3 : l + 2 < Z := by omega
  obtain ⟨m', j, h6, h7⟩ := Y9 h s h4 h5 hl3
  have hmin : min (l * 2 ^ F + K) (Z * 2 ^ F) = l * 2 ^ F + K := by
    apply Nat.min_eq_left
    have : (l + 2) * 2 ^ F ≤ Z * 2 ^ F := Nat.mul_le_mul_right _ (by omega)
    rw [Nat.add_mul] at this
    omega
  rw [hmin]
  refine ⟨m', L + (j : Int), K, h6, by omega, ?_, h3⟩
  rw [show (L + (j : Int) - Q).toNat = j + (L - Q).toNat by omega, Nat.pow_add, ← Nat.mul_assoc, h7, Nat.mul_assoc, ← Nat.pow_add, show l + (L - Q).toNat = (last - Q).toNat by omega]
theorem aOM {f : Ieee.Format} {F : Nat} {L : Int} {Z : Nat} (h : Fm f F L Z) (s : Bool) {m : Nat} {p B Q : Int} (hQ : Q ≤ p) (hQL : Q ≤ L) (hB : m = 0 ∨ p + (m.log2 : Int) < B) (hZ : B - (F : Int) - L + 2 ≤ (Z : Int))
    {V k : Nat} (hV : V < 2 ^ (F + 1)) (hk : (L - Q).toNat ≤ k) (he : m * 2 ^ (p - Q).toNat = V * 2 ^ k) :
    ∃ (m' : Nat) (p' : Int), f.read (f.nearest s m p) = .number s m' p' ∧ L ≤ p' ∧ m' * 2 ^ (p' - Q).toNat = V * 2 ^ k := by
  by_cases hm : m = 0
  · subst hm
    obtain ⟨m', p', h1, h2, h3⟩ := aGZ h s hQ hQL hB hZ
    unfold Ieee.Format.nearest at h1
    rw [if_pos rfl] at h1
    have hw := AZ (f := f) s (r := 0) (by have := h.sgn; have := h.two; have := Nat.pow_pos (n := F) (show 0 < 2 by decide); have := Nat.mul_pos (show 0 < Z by omega) this; omega)
    rw [if_pos (by rw [h.bin]; exact Nat.pow_pos (by decide)), h.least] at hw
    rw [hw] at h1
    cases h1
    refine ⟨0, L, ?_, Int.le_refl _, by rw [Nat.zero_mul] at he ⊢; exact he⟩
    unfold Ieee.Format.nearest
    rw [if_pos rfl]
    exact hw
  · obtain ⟨m', p', K, h1, h2, h3, h4⟩ := ahN h s hQ hQL hm hB hZ
    refine ⟨m', p', h1, h2, ?_⟩
    rw [h3]
    generalize hx : (max (p + (m.log2 : Int) - (F : Int)) L - Q).toNat = x at h4
    have hxk : x ≤ k := by
      have h5 : 2 ^ (m.log2 + (p - Q).toNat) ≤ V * 2 ^ k := by
        rw [← he, Nat.pow_add]
        exact Nat.mul_le_mul_right _ (Nat.log2_self_le hm)
      have h6 : V * 2 ^ k < 2 ^ (F + 1 + k) := by rw [Nat.pow_add]; exact Nat.mul_lt_mul_of_pos_right hV (Nat.pow_pos (by decide))
      have h7 := (Nat.pow_lt_pow_iff_right (by decide : 1 < 2)).1 (Nat.lt_of_le_of_lt h5 h6)
      omega
    obtain ⟨y, rfl⟩ : ∃ y, k = y + x := ⟨k - x, by omega⟩
    rw [he, Nat.pow_add, ← Nat.mul_assoc] at h4
    rw [Nat.pow_add, ← Nat.mul_assoc]
    generalize V * 2 ^ y = q at h4
    have hpos : 0 < 2 ^ x := Nat.pow_pos (by decide)
    generalize 2 ^ x = X at h4 hpos
    rcases Nat.lt_trichotomy K q with h8 | h8 | h8
    · have h9 : (K + 1) * X ≤ q * X := Nat.mul_le_mul_right _ h8
      rw [Nat.add_mul, Nat.one_mul] at h9
      generalize K * X = u at h4 h9
      generalize q * X = v at h4 h9
      omega
    · rw [h8]
    · have h9 : (q + 1) * X ≤ K * X := Nat.mul_le_mul_right _ h8
      rw [Nat.add_mul, Nat.one_mul] at h9
      generalize K * X = u at h4 h9
      generalize q * X = v at h4 h9
      omega
def Is (f : Ieee.Format) (L : Int) (x : Nat) (v : Int) : Prop := ∃ s m e, f.read x = .number s m e ∧ L ≤ e ∧ v = Ieee.signed s m (e - L).toNat
theorem aAU (s : Bool) (m k : Nat) : Ieee.signed s m k = if s = true then -((m * 2 ^ k : Nat) : Int) else ((m * 2 ^ k : Nat) : Int) := by unfold Ieee.signed; rw [Nat.shiftLeft_eq]
end Go.Proofs.Ytpjoapgfdjfbdaa.Ab
namespace Go.Proofs.Ytpjoapgfdjfbdaa.Ab
set_option linter.unusedVariables false
set_option linter.unusedSimpArgs false
theorem tV {b d : Rat} (hb : 0 < b) (hd : 0 < d) : 0 < b / d := by
  have h1 : (b / d) * d = b := by grind
  refine Rat.not_le.1 fun h => ?_
  have h2 : b / d * d ≤ 0 * d := Rat.mul_le_mul_of_nonneg_right h (by grind)
  grind
def sgP : Nat → Rat
  | 0 => 1
  | k + 1 => - sgP k
theorem aF {x y : Rat} (h : 0 ≤ x) (k : 0 ≤ y) : 0 ≤ x * y := Rat.mul_nonneg h k
def aH (x : Rat) : Rat := if 0 ≤ x then x else -x
theorem fA {x k : Rat} : aH x ≤ k ↔ (-k ≤ x ∧ x ≤ k) := by unfold aH; split <;> grind
theorem aG0 {x y k l : Rat} (hx : aH x ≤ k) (hy : aH y ≤ l) : aH (x * y) ≤ k * l := by
  rw [fA] at hx hy ⊢
  have h1 := aF (show 0 ≤ k - x by grind) (show 0 ≤ l + y by grind)
  have h2 := aF (show 0 ≤ k + x by grind) (show 0 ≤ l - y by grind)
  have h3 := aF (show 0 ≤ k - x by grind) (show 0 ≤ l - y by grind)
  have h4 := aF (show 0 ≤ k + x by grind) (show 0 ≤ l + y by grind)
  grind
theorem RS {x y k l : Rat} (hx : aH x ≤ k) (hy : aH y ≤ l) : aH (x + y) ≤ k + l := by
  rw [fA] at *; grind
theorem ad6 {x y k l : Rat} (hx : aH x ≤ k) (hy : aH y ≤ l) : aH (x - y) ≤ k + l := by
  rw [fA] at *; grind
structure near (b δ K w p q p' q' : Rat) : Prop where
  k0 : 1 ≤ K
  hp : aH p ≤ K
  hq : aH q ≤ K
  hp' : aH p' ≤ K
  hq' : aH q' ≤ K
  dp : aH (p - p') ≤ K * δ
  dq : aH (q - q') ≤ K * δ
  hw : δ * w ≤ p * q' - q * p'
def sh (a : List Rat) (e : Rat) : List Rat := a.map (· - e)
def dd (x f : Nat → Rat) : Nat → Nat → Rat
  | 0, i => f i
  | m + 1, i => (dd x f m (i + 1) - dd x f m i) / (x (i + m + 1) - x i)
def aYM (x : Nat → Rat) (i : Nat) : Nat → Rat
  | 0 => 0
  | k + 1 => x i + aYM x (i + 1) k
structure poly (x : Nat → Rat) (n : Nat) (f : Nat → Rat) (k : Nat) (t : Rat) : Prop where
  no : ∀ m i, i + m < n → k < m → dd x f m i = 0
  one : ∀ i, i + k < n → dd x f k i = sgP k
  sum : ∀ l i, k = l + 1 → i + l < n → dd x f l i = sgP k * (aYM x i k - t)
  zero : k = 0 → t = 0
end Go.Proofs.Ytpjoapgfdjfbdaa.Ab
namespace Go.Proofs.Ytpjoapgfdjfbdaa.Ab
set_option linter.unusedVariables false
set_option linter.unusedSimpArgs false
open Go
def tw (k : Int) : Rat := (2 : Rat) ^ k
theorem gV (k : Int) : 0 < tw k := Rat.zpow_pos (by decide +kernel)
theorem oN (a b : Int) : tw (a + b) = tw a * tw b := Rat.zpow_add (by decide +kernel) a b
theorem JL (n : Nat) : tw (n : Int) = ((2 ^ n : Nat) : Rat) := by
  unfold tw
  rw [Rat.zpow_natCast]
  push_cast
  rfl
theorem nK {q p : Int} (h : q ≤ p) : tw p = tw q * ((2 ^ (p - q).toNat : Nat) : Rat) := by
  rw [← JL, ← oN]
  congr 1
  omega
theorem oJ {a b : Int} (h : a ≤ b) : tw a ≤ tw b := by
  rw [nK h]
  have h1 : (1 : Rat) ≤ ((2 ^ (b - a).toNat : Nat) : Rat) := by
    have : 1 ≤ 2 ^ (b - a).toNat := Nat.pow_pos (by decide)
    exact_mod_cast this
  have := aF (Rat.le_of_lt (gV a)) (show 0 ≤ ((2 ^ (b - a).toNat : Nat) : Rat) - 1 by grind)
  grind
def sg (s : Bool) : Rat := if s then -1 else 1
def dv (s : Bool) (m : Nat) (e : Int) : Rat := sg s * ((m : Rat) * tw e)
def Vw (f : Ieee.Format) (x : Nat) (r : Rat) : Prop := ∃ s m e, f.read x = .number s m e ∧ r = dv s m e
theorem asF {a b : Nat} (h : (a : Rat) ≤ b) : a ≤ b := by exact_mod_cast h
theorem oO {a b : Nat} (h : a ≤ b) : (a : Rat) ≤ b := by exact_mod_cast h
theorem fJ {a b c : Rat} (h : a * c ≤ b * c) (hc : 0 < c) : a ≤ b := Rat.le_of_mul_le_mul_right h hc
theorem ad7 (n : Nat) : (0 : Rat) ≤ n := by exact_mod_cast Nat.zero_le n
structure Mag (F : Nat) (L : Int) (E R : Rat) (K : Nat) (l : Int) : Prop where
  le : L ≤ l
  eq : R = K * tw l
  err : 2 * aH (R - E) ≤ tw l
  full : l = L ∨ ((2 ^ F : Nat) : Rat) * tw l ≤ E
theorem aoL {f : Ieee.Format} {F : Nat} {L : Int} {Z : Nat} (h : Fm f F L Z) (s : Bool) {m : Nat} {p B : Int} (hm : m ≠ 0) (hB : p + (m.log2 : Int) < B) (hZ : B - (F : Int) - L + 2 ≤ (Z : Int)) :
    ∃ (m' : Nat) (p' : Int) (K : Nat) (l : Int), f.read (f.nearest s m p) = .number s m' p' ∧ l = max (p + (m.log2 : Int) - (F : Int)) L ∧ Mag F L (m * tw p) (m' * tw p') K l := by
  obtain ⟨m', p', K, h1, h2, h3, h4⟩ := ahN h s (Q := min p L) (by omega) (by omega) hm (.inr hB) hZ
  refine ⟨m', p', K, max (p + (m.log2 : Int) - (F : Int)) L, h1, rfl, ?_⟩
  generalize hl : max (p + (m.log2 : Int) - (F : Int)) L = l at *
  generalize hq : min p L = q at *
  have hqp : q ≤ p := by omega
  have hql : q ≤ l := by omega
  have hqp' : q ≤ p' := by omega
  have e3 : (m' : Rat) * tw p' = K * tw l := by
    rw [nK hqp', nK hql]
    have : ((m' * 2 ^ (p' - q).toNat : Nat) : Rat) = ((K * 2 ^ (l - q).toNat : Nat) : Rat) := congrArg (fun n : Nat => (n : Rat)) h3
    rw [Rat.natCast_mul, Rat.natCast_mul] at this
    grind
  refine ⟨by omega, e3, ?_, ?_⟩
  · rw [e3, nK hqp, nK hql]
    have hp := gV q
    have h5 : -((2 ^ (l - q).toNat : Nat) : Int) ≤ 2 * (((K * 2 ^ (l - q).toNat : Nat) : Int) - ((m * 2 ^ (p - q).toNat : Nat) : Int)) ∧ 2 * (((K * 2 ^ (l - q).toNat : Nat) : Int) - ((m * 2 ^ (p - q).toNat : Nat) : Int)) ≤ ((2 ^ (l - q).toNat : Nat) : Int) := by omega
    obtain ⟨h5, h6⟩ := h5
    have h5 : (((-((2 ^ (l - q).toNat : Nat) : Int)) : Int) : Rat) ≤ ((2 * (((K * 2 ^ (l - q).toNat : Nat) : Int) - ((m * 2 ^ (p - q).toNat : Nat) : Int)) : Int) : Rat) := Rat.intCast_le_intCast.2 h5
    have h6 : ((2 * (((K * 2 ^ (l - q).toNat : Nat) : Int) - ((m * 2 ^ (p - q).toNat : Nat) : Int)) : Int) : Rat) ≤ (((2 ^ (l - q).toNat : Nat) : Int) : Rat) := Rat.intCast_le_intCast.2 h6
    rw [Rat.intCast_mul, Rat.intCast_sub, Rat.intCast_natCast, Rat.intCast_natCast, Rat.natCast_mul, Rat.natCast_mul] at h5 h6
    rw [Rat.intCast_neg, Rat.intCast_natCast] at h5
    rw [Rat.intCast_natCast] at h6
    have h2c : ((2 : Int) : Rat) = 2 := rfl
    rw [h2c] at h5 h6
    generalize ((2 ^ (l - q).toNat : Nat) : Rat) = X at *
    generalize ((2 ^ (p - q).toNat : Nat) : Rat) = Y at *
    generalize tw q = t at *
    have i1 := aF (Rat.le_of_lt hp) (show 0 ≤ 2 * (K * X - m * Y) + X by grind)
    have i2 := aF (Rat.le_of_lt hp) (show 0 ≤ X - 2 * (K * X - m * Y) by grind)
    have : aH (K * (t * X) - m * (t * Y)) ≤ t * X / 2 := by rw [fA]; grind
    grind
  · by_cases h0 : l = L
    · exact .inl h0
    · right
      have h5 : l = p + (m.log2 : Int) - (F : Int) := by omega
      have h6 : 2 ^ m.log2 ≤ m := Nat.log2_self_le hm
      have h7 := oO h6
      have h8 : ((2 ^ F : Nat) : Rat) * tw l = ((2 ^ m.log2 : Nat) : Rat) * tw p := by
        rw [← JL, ← JL, ← oN, ← oN]
        congr 1
        omega
      rw [h8]
      exact Rat.mul_le_mul_of_nonneg_right h7 (Rat.le_of_lt (gV p))
theorem aG1 {F : Nat} {L : Int} {E R : Rat} {K : Nat} {l : Int} (h : Mag F L E R K l) {W : Nat} {k : Int} (hW : W < 2 ^ (F + 1)) (hk : L ≤ k) (hE : W * tw k ≤ E) : W * tw k ≤ R := by
  obtain ⟨h1, h2, h3, h4⟩ := h
  have key : ∀ W' : Nat, W' * tw l ≤ E → W' * tw l ≤ R := by
    intro W' hW'
    rw [h2]
    refine Rat.mul_le_mul_of_nonneg_right (oO (Nat.le_of_not_lt fun hlt => ?_)) (Rat.le_of_lt (gV l))
    have h5 : ((K : Nat) : Rat) + 1 ≤ W' := by
      have : ((K + 1 : Nat) : Rat) ≤ W' := oO hlt
      push_cast at this
      exact this
    have h6 := aF (Rat.le_of_lt (gV l)) (show 0 ≤ (W' : Rat) - (K + 1) by grind)
    have h7 := gV l
    have h8 : aH (R - E) ≤ tw l / 2 := by grind
    rw [fA] at h8
    grind
  by_cases hkl : l ≤ k
  · rw [nK hkl] at hE ⊢
    have := key (W * 2 ^ (k - l).toNat) (by rw [Rat.natCast_mul]; grind)
    rw [Rat.natCast_mul] at this
    grind
  · have h4 := h4.resolve_left (by omega)
    have h5 := key (2 ^ F) h4
    refine Rat.le_trans ?_ h5
    have h6 : (W : Rat) ≤ ((2 ^ (F + 1) : Nat) : Rat) := oO (Nat.le_of_lt hW)
    have h7 : tw l = tw k * ((2 ^ (l - k).toNat : Nat) : Rat) := nK (by omega)
    have h8 : (2 : Rat) ≤ ((2 ^ (l - k).toNat : Nat) : Rat) := by
      have : 2 ^ 1 ≤ 2 ^ (l - k).toNat := Nat.pow_le_pow_right (by decide) (by omega)
      exact oO this
    have h9 : ((2 ^ (F + 1) : Nat) : Rat) = 2 * ((2 ^ F : Nat) : Rat) := by rw [Nat.pow_succ, Rat.natCast_mul]; grind
    have hp := gV k
    have hf := ad7 (2 ^ F)
    rw [h7]
    rw [h9] at h6
    generalize ((2 ^ (l - k).toNat : Nat) : Rat) = X at *
    generalize ((2 ^ F : Nat) : Rat) = Y at *
    have i1 := aF (Rat.le_of_lt hp) (show 0 ≤ 2 * Y - W by grind)
    have i2 := aF (aF (Rat.le_of_lt hp) hf) (show 0 ≤ X - 2 by grind)
    grind
theorem aG2 {F : Nat} {L : Int} {E R : Rat} {K : Nat} {l : Int} (h : Mag F L E R K l) {W : Nat} {k : Int} (hW : W < 2 ^ (F + 1)) (hk : L ≤ k) (hE : E ≤ W * tw k) : R ≤ W * tw k := by
  obtain ⟨h1, h2, h3, h4⟩ := h
  have key : ∀ W' : Nat, E ≤ W' * tw l → R ≤ W' * tw l := by
    intro W' hW'
    rw [h2]
    refine Rat.mul_le_mul_of_nonneg_right (oO (Nat.le_of_not_lt fun hlt => ?_)) (Rat.le_of_lt (gV l))
    have h5 : ((W' : Nat) : Rat) + 1 ≤ K := by
      have : ((W' + 1 : Nat) : Rat) ≤ K := oO hlt
      push_cast at this
      exact this
    have h6 := aF (Rat.le_of_lt (gV l)) (show 0 ≤ (K : Rat) - (W' + 1) by grind)
    have h7 := gV l
    have h8 : aH (R - E) ≤ tw l / 2 := by grind
    rw [fA] at h8
    grind
  by_cases hkl : l ≤ k
  · rw [nK hkl] at hE ⊢
    have := key (W * 2 ^ (k - l).toNat) (by rw [Rat.natCast_mul]; grind)
    rw [Rat.natCast_mul] at this
    grind
  · exfalso
    have h4 := h4.resolve_left (by omega)
    have h6 : (W : Rat) + 1 ≤ ((2 ^ (F + 1) : Nat) : Rat) := by
      have : ((W + 1 : Nat) : Rat) ≤ ((2 ^ (F + 1) : Nat) : Rat) := oO hW
      push_cast at this ⊢
      exact this
    have h7 : tw l = tw k * ((2 ^ (l - k).toNat : Nat) : Rat) := nK (by omega)
    have h8 : (2 : Rat) ≤ ((2 ^ (l - k).toNat : Nat) : Rat) := by
      have : 2 ^ 1 ≤ 2 ^ (l - k).toNat := Nat.pow_le_pow_right (by decide) (by omega)
      exact oO this
    have h9 : ((2 ^ (F + 1) : Nat) : Rat) = 2 * ((2 ^ F : Nat) : Rat) := by rw [Nat.pow_succ, Rat.natCast_mul]; grind
    have hp := gV k
    have hf := ad7 (2 ^ F)
    rw [h7] at h4
    rw [h9] at h6
    generalize ((2 ^ (l - k).toNat : Nat) : Rat) = X at *
    generalize ((2 ^ F : Nat) : Rat) = Y at *
    have i1 := aF (Rat.le_of_lt hp) (show 0 ≤ 2 * Y - (W + 1) by grind)
    have i2 := aF (aF (Rat.le_of_lt hp) hf) (show 0 ≤ X - 2 by grind)
    grind
theorem aON {F : Nat} {L : Int} {E R : Rat} {K : Nat} {l : Int} (h : Mag F L E R K l) (hE : 0 ≤ E) : aH (R - E) ≤ E * tw (-(F : Int) - 1) + tw (L - 1) := by
  obtain ⟨h1, h2, h3, h4⟩ := h
  have ht : tw (-1) = 1 / 2 := by decide +kernel
  have e1 : tw (-(F : Int) - 1) = tw (-(F : Int)) * (1 / 2) := by rw [← ht, ← oN]; rfl
  have e2 : tw (L - 1) = tw L * (1 / 2) := by rw [← ht, ← oN]; rfl
  have e3 : ((2 ^ F : Nat) : Rat) * tw (-(F : Int)) = 1 := by
    rw [← JL, ← oN, show (F : Int) + -(F : Int) = 0 by omega]
    decide +kernel
  have p1 := gV (-(F : Int))
  have p2 := gV L
  rw [e1, e2]
  rcases h4 with h4 | h4
  · subst h4
    have := aF hE (Rat.le_of_lt p1)
    grind
  · have h5 := Rat.mul_le_mul_of_nonneg_right h4 (Rat.le_of_lt p1)
    have h6 : ((2 ^ F : Nat) : Rat) * tw l * tw (-(F : Int)) = tw l := by
      have : ((2 ^ F : Nat) : Rat) * tw l * tw (-(F : Int)) = (((2 ^ F : Nat) : Rat) * tw (-(F : Int))) * tw l := by grind
      rw [this, e3]
      grind
    rw [h6] at h5
    grind
theorem axM {F : Nat} {L : Int} {E R : Rat} {K : Nat} {l : Int} (h : Mag F L E R K l) {k : Int} {j : Nat} (hE : E = j * tw k) : ∃ i : Nat, R = i * tw k := by
  obtain ⟨h1, h2, h3, h4⟩ := h
  by_cases hkl : k ≤ l
  · exact ⟨K * 2 ^ (l - k).toNat, by rw [h2, nK hkl, Rat.natCast_mul]; grind⟩
  · refine ⟨j, ?_⟩
    have e1 : E = ((j * 2 ^ (k - l).toNat : Nat) : Rat) * tw l := by rw [hE, nK (show l ≤ k by omega), Rat.natCast_mul]; grind
    rw [← hE, e1, h2]
    have hp := gV l
    have h5 : aH (R - E) ≤ tw l / 2 := by grind
    rw [fA, h2, e1] at h5
    generalize j * 2 ^ (k - l).toNat = J at *
    congr 2
    rcases Nat.lt_trichotomy K J with h6 | h6 | h6
    · have : ((K + 1 : Nat) : Rat) ≤ J := oO h6
      push_cast at this
      have := aF (Rat.le_of_lt hp) (show 0 ≤ (J : Rat) - (K + 1) by grind)
      grind
    · exact h6
    · have : ((J + 1 : Nat) : Rat) ≤ K := oO h6
      push_cast at this
      have := aF (Rat.le_of_lt hp) (show 0 ≤ (K : Rat) - (J + 1) by grind)
      grind
structure Rnd (F : Nat) (L : Int) (E R : Rat) : Prop where
  err : aH (R - E) ≤ aH E * tw (-(F : Int) - 1) + tw (L - 1)
  lo : ∀ s W k, W < 2 ^ (F + 1) → L ≤ k → dv s W k ≤ E → dv s W k ≤ R
  hi : ∀ s W k, W < 2 ^ (F + 1) → L ≤ k → E ≤ dv s W k → R ≤ dv s W k
  mul : ∀ k (j : Int), E = j * tw k → ∃ i : Int, R = i * tw k
theorem aG3 (s : Bool) : sg s = 1 ∨ sg s = -1 := by cases s; exact .inl rfl; exact .inr rfl
theorem iW (x : Rat) : 0 ≤ aH x := by unfold aH; split <;> grind
theorem bP {x : Rat} (h : 0 ≤ x) : aH x = x := by unfold aH; rw [if_pos h]
theorem nX (x : Rat) : aH (-x) = aH x := by unfold aH; split <;> split <;> grind
theorem ahO (m : Nat) (p : Int) : 0 ≤ (m : Rat) * tw p := aF (ad7 m) (Rat.le_of_lt (gV p))
theorem axN {F : Nat} {L : Int} {E R : Rat} {K : Nat} {l : Int} (h : Mag F L E R K l) (hE : 0 ≤ E) (hE0 : E ≠ 0) (hR : 0 ≤ R) (s : Bool) (hint : ∀ k (j : Int), E = j * tw k → ∃ i : Nat, R = i * tw k) : Rnd F L (sg s * E) (sg s * R) := by
  refine ⟨?_, ?_, ?_, ?_⟩
  · have := aON h hE
    rcases aG3 s with e | e <;> rw [e]
    · have e1 : (1 : Rat) * R - 1 * E = R - E := by grind
      rw [e1, show (1 : Rat) * E = E by grind, bP hE]; exact this
    · have e1 : (-1 : Rat) * R - -1 * E = -(R - E) := by grind
      rw [e1, nX, show (-1 : Rat) * E = -E by grind, nX, bP hE]; exact this
  · intro t W k hW hk hle
    unfold dv at *
    have h0 := ahO W k
    cases s <;> cases t <;> simp only [sg, if_true, if_false, Bool.false_eq_true] at *
    · have := aG1 h hW hk (by grind); grind
    · grind
    · grind
    · have := aG2 h hW hk (by grind); grind
  · intro t W k hW hk hle
    unfold dv at *
    have h0 := ahO W k
    cases s <;> cases t <;> simp only [sg, if_true, if_false, Bool.false_eq_true] at *
    · have := aG2 h hW hk (by grind); grind
    · grind
    · grind
    · have := aG1 h hW hk (by grind); grind
  · intro k j hj
    cases s <;> simp only [sg, if_true, if_false, Bool.false_eq_true] at *
    · obtain ⟨i, hi⟩ := hint k j (by grind)
      exact ⟨i, by rw [hi, Rat.intCast_natCast]; grind⟩
    · obtain ⟨i, hi⟩ := hint k (-j) (by rw [Rat.intCast_neg]; grind)
      exact ⟨-i, by rw [hi, Rat.intCast_neg, Rat.intCast_natCast]; grind⟩
theorem axO {E : Rat} (hE : 0 ≤ E) {k : Int} {j : Int} (h : E = j * tw k) : E = (j.toNat : Nat) * tw k := by
  rw [h]
  have hj : 0 ≤ j := by
    refine Int.not_lt.1 fun hlt => ?_
    have h1 : (j : Rat) < 0 := by exact_mod_cast hlt
    have := Rat.mul_pos (show 0 < -(j : Rat) by grind) (gV k)
    grind
  have : ((j.toNat : Nat) : Rat) = (j : Rat) := by
    have := Int.toNat_of_nonneg hj
    exact_mod_cast congrArg (fun i : Int => (i : Rat)) this
  rw [this]
theorem RU {f : Ieee.Format} {F : Nat} {L : Int} {Z : Nat} (h : Fm f F L Z) (s : Bool) {m : Nat} {p B : Int} (hB : (m : Rat) * tw p < tw B) (hZ : B - (F : Int) - L + 2 ≤ (Z : Int)) :
    ∃ R, Vw f (f.nearest s m p) R ∧ Rnd F L (dv s m p) R := by
  by_cases hm : m = 0
  · subst hm
    have e : dv s 0 p = 0 := by unfold dv; have : ((0 : Nat) : Rat) = 0 := rfl; rw [this]; grind
    refine ⟨0, ⟨s, 0, L, ?_, ?_⟩, ?_⟩
    · unfold Ieee.Format.nearest
      rw [if_pos rfl]
      have hw := AZ (f := f) s (r := 0) (by have := h.sgn; have := h.two; have := Nat.pow_pos (n := F) (show 0 < 2 by decide); have := Nat.mul_pos (show 0 < Z by omega) this; omega)
      rw [if_pos (by rw [h.bin]; exact Nat.pow_pos (by decide)), h.least] at hw
      exact hw
    · unfold dv; have : ((0 : Nat) : Rat) = 0 := rfl; rw [this]; grind
    · rw [e]
      refine ⟨?_, fun _ _ _ _ _ h => h, fun _ _ _ _ _ h => h, fun k j hj => ⟨j, hj⟩⟩
      have := gV (L - 1)
      have := gV (-(F : Int) - 1)
      rw [fA, bP (by decide +kernel)]
      grind
  · have hlog : p + (m.log2 : Int) < B := by
      refine Int.not_le.1 fun hle => ?_
      have h1 := oJ hle
      rw [oN, JL] at h1
      have h2 := oO (Nat.log2_self_le hm)
      have h3 := Rat.mul_le_mul_of_nonneg_right h2 (Rat.le_of_lt (gV p))
      grind
    obtain ⟨m', p', K, l, h1, _, h2⟩ := aoL h s hm hlog hZ
    have h0 := ahO m p
    have hne : (m : Rat) * tw p ≠ 0 := by
      have : (0 : Rat) < m := by exact_mod_cast Nat.pos_of_ne_zero hm
      have := Rat.mul_pos this (gV p)
      grind
    refine ⟨_, ⟨s, m', p', h1, rfl⟩, axN h2 h0 hne (ahO m' p') s fun k j hj => axM h2 (axO h0 hj)⟩
theorem MM (s : Bool) (m : Nat) {b i : Int} (h : b ≤ i) : ((Ieee.signed s m (i - b).toNat : Int) : Rat) * tw b = dv s m i := by
  rw [aAU]
  unfold dv
  rw [nK h]
  cases s <;> simp only [sg, if_true, if_false, Bool.false_eq_true]
  · rw [Rat.intCast_natCast, Rat.natCast_mul]; grind
  · rw [Rat.intCast_neg, Rat.intCast_natCast, Rat.natCast_mul]; grind
theorem ad8 (s : Bool) (m : Nat) (e : Int) : aH (dv s m e) = m * tw e := by
  unfold dv
  have := ahO m e
  cases s <;> simp only [sg, if_true, if_false, Bool.false_eq_true] <;> unfold aH <;> split <;> grind
theorem aG4 {t : Int} {z : Bool} {b : Int} : dv (if t = 0 then z else decide (t < 0)) t.natAbs b = (t : Rat) * tw b := by
  unfold dv
  by_cases h0 : t = 0
  · subst h0
    have : (((0 : Int).natAbs : Nat) : Rat) = 0 := rfl
    rw [this]
    have : ((0 : Int) : Rat) = 0 := rfl
    rw [this]
    grind
  · rw [if_neg h0]
    by_cases h1 : t < 0
    · have e : ((t.natAbs : Nat) : Rat) = -(t : Rat) := by
        have h2 : ((t.natAbs : Nat) : Int) = -t := by omega
        rw [← Rat.intCast_natCast, h2, Rat.intCast_neg]
      rw [e]
      simp only [h1, decide_true, sg, if_true]
      grind
    · have e : ((t.natAbs : Nat) : Rat) = (t : Rat) := by
        have h2 : ((t.natAbs : Nat) : Int) = t := by omega
        rw [← Rat.intCast_natCast, h2]
      rw [e]
      simp only [h1, decide_false, sg, if_false, Bool.false_eq_true]
      grind
theorem axP {f : Ieee.Format} {F : Nat} {L : Int} {Z : Nat} (h : Fm f F L Z) {s t : Bool} {m n : Nat} {i j B : Int} (hB : aH (dv s m i + dv t n j) < tw B) (hZ : B - (F : Int) - L + 2 ≤ (Z : Int)) :
    ∃ r R, ((Ieee.Datum.number s m i).sum (.number t n j)).map f.write = some r ∧ Vw f r R ∧ Rnd F L (dv s m i + dv t n j) R := by
  unfold Ieee.Datum.sum
  dsimp only
  generalize hb : min i j = base
  have e : dv s m i + dv t n j = ((Ieee.signed s m (i - base).toNat + Ieee.signed t n (j - base).toNat : Int) : Rat) * tw base := by
    rw [← MM s m (show base ≤ i by omega), ← MM t n (show base ≤ j by omega), Rat.intCast_add]
    grind
  rw [e] at hB ⊢
  generalize Ieee.signed s m (i - base).toNat + Ieee.signed t n (j - base).toNat = total at *
  rw [← aG4 (z := s && t)] at hB ⊢
  rw [ad8] at hB
  obtain ⟨R, h1, h2⟩ := RU h (if total = 0 then s && t else decide (total < 0)) hB hZ
  exact ⟨_, R, rfl, h1, h2⟩
theorem axQ {f : Ieee.Format} {F : Nat} {L : Int} {Z : Nat} (h : Fm f F L Z) {x y : Nat} {a b : Rat} {B : Int} (hx : Vw f x a) (hy : Vw f y b) (hB : aH (a + b) < tw B) (hZ : B - (F : Int) - L + 2 ≤ (Z : Int)) :
    ∃ r R, f.add x y = some r ∧ Vw f r R ∧ Rnd F L (a + b) R := by
  obtain ⟨s, m, i, h1, rfl⟩ := hx
  obtain ⟨t, n, j, h2, rfl⟩ := hy
  unfold Ieee.Format.add
  rw [h1, h2]
  exact axP h hB hZ
theorem aVE (t : Bool) (n : Nat) (j : Int) : dv (!t) n j = - dv t n j := by
  unfold dv
  cases t <;> simp only [sg, Bool.not_false, Bool.not_true, if_true, if_false, Bool.false_eq_true] <;> grind
theorem axR {f : Ieee.Format} {F : Nat} {L : Int} {Z : Nat} (h : Fm f F L Z) {x y : Nat} {a b : Rat} {B : Int} (hx : Vw f x a) (hy : Vw f y b) (hB : aH (a - b) < tw B) (hZ : B - (F : Int) - L + 2 ≤ (Z : Int)) :
    ∃ r R, f.sub x y = some r ∧ Vw f r R ∧ Rnd F L (a - b) R := by
  obtain ⟨s, m, i, h1, rfl⟩ := hx
  obtain ⟨t, n, j, h2, rfl⟩ := hy
  have e : dv s m i - dv t n j = dv s m i + dv (!t) n j := by rw [aVE]; grind
  rw [e] at hB ⊢
  unfold Ieee.Format.sub
  rw [h1, h2]
  exact axP h hB hZ
theorem asG (s t : Bool) : sg (s ^^ t) = sg s * sg t := by cases s <;> cases t <;> decide +kernel
theorem ajZ {f : Ieee.Format} {F : Nat} {L : Int} {Z : Nat} (h : Fm f F L Z) {x y : Nat} {a b : Rat} {B : Int} (hx : Vw f x a) (hy : Vw f y b) (hB : aH (a * b) < tw B) (hZ : B - (F : Int) - L + 2 ≤ (Z : Int)) :
    ∃ r R, f.mul x y = some r ∧ Vw f r R ∧ Rnd F L (a * b) R := by
  obtain ⟨s, m, i, h1, rfl⟩ := hx
  obtain ⟨t, n, j, h2, rfl⟩ := hy
  unfold Ieee.Format.mul
  rw [h1, h2]
  unfold Ieee.Datum.product
  dsimp only
  have e : dv s m i * dv t n j = dv (s ^^ t) (m * n) (i + j) := by
    unfold dv
    rw [asG, oN, Rat.natCast_mul]
    grind
  rw [e] at hB ⊢
  rw [ad8] at hB
  obtain ⟨R, h3, h4⟩ := RU h (s ^^ t) hB hZ
  exact ⟨_, R, rfl, h3, h4⟩
end Go.Proofs.Ytpjoapgfdjfbdaa.Ab
