/- What the proof names: lemmas and words, merged by a program from its parts. No condition. -/
import Derived.Test.YthjncajdognojaaZ11
import Derived.Lib.AppendZerosOnto
import Derived.Lib.Walk
import Derived.Lib.SliceRun
namespace Go.Proofs.Ythjncajdognojaa.Ab
set_option linter.unusedVariables false
set_option linter.unusedSimpArgs false
open Go Go.RowKit Go.Lib
set_option maxHeartbeats 4000000 in
set_option maxRecDepth 100000 in
theorem grow_calls (n : Nat) (w : World) (h0 : 0 < n) (hn : n ≤ 1000000) :
    Calls Try.prog 42 #[.slice none 0 0, .int .i64 n] w fun e w' => ∃ cells : Array Value, ∃ c : Nat, e = .returned (.slice (some ⟨w.heap.size, 0, none⟩) 0 c) ∧ w' = w.drew.alloc (.cells cells 40) ∧ c ≤ maxLen ∧ c = cells.size := by
  have h1 : ¬ ((n : Int) < 0) := by omega
  have h2 : wrap64 ((0 : Int) - (0 : Int)) = 0 := by unfold wrap64; omega
  have h3 : wrap64 ((n : Int) - 0) = (n : Int) := by unfold wrap64; omega
  have h4 : (n : Int) > 0 := by omega
  obtain ⟨i, z, d, rI⟩ := row tyOk (t := 40) rfl
  have hzl : z.cells.size = 1 := by
    have := (rI.rep ⟨noZ, []⟩).len
    simp only [List.length_cons, List.length_nil, Array.length_toList] at this
    omega
  have hrz : ∀ ty, (Builtin.append_ #[22, 3] ty #[.slice none 0 0, .int .i64 (n : Int)]).run Try.prog w = _ := fun ty =>
    Lib.run_append_grow_zeros w 22 3 ty 40 i z .i64 .i64 Try.underlying22 Try.underlying3 rI.info rI.zero none 0 0 [] (run_firstCells_none w.drew i.size 0 0 0) n h0 (by rw [rI.size]; decide) (by omega) (by omega)
      (by rw [rI.bytes]; show n * 4 ≤ _; omega) (growslice_fits (by omega) (by rw [rI.bytes]; show (0 + n) * 4 ≤ _; omega))
  have hge := grownCap_ge w (0 + n) 0 40
  have hgm := grownCap_le_maxLen w (0 + n) 0 40 (by unfold maxLen; omega)
  rw [Nat.zero_add] at hge hgm
  generalize z.cells = Z at hrz hzl
  go_enter Try.func42, Try.ntmps42
  go_wp2_with (at_builtin; refine Lib.wpList_append_run _ rfl _ _ _ _ rfl _ _ rfl rfl _ _ (hrz _) ?_)
  all_goals (go_ret; exact ⟨_, _, rfl, rfl, hgm, by simp only [Array.size_append, size_zeroCells, hzl, Nat.mul_one]; omega⟩)
def gGrow : GT := fun vs h => match vs, h with
  | [.nil, .int .i64 n], [] => .ite (decide (0 < n ∧ n ≤ 1000000)) (.ret (.sl 0 0 0) [.at true (.fl .f32 [])]) .no
  | _, _ => .no
theorem ok_grow : FnT Try.prog 42 gGrow := by
  intro vs hp v h' ee μ w cvs hr hv
  unfold gGrow at ee
  split at ee
  case h_2 => cases ee
  rename_i n
  obtain ⟨hd, e2⟩ := (by
    revert ee
    show (T.ite _ _ _).run = _ → _
    cases decide (0 < n ∧ n ≤ 1000000) with
    | false => intro e; cases e
    | true => intro e; exact ⟨rfl, e⟩ : decide (0 < n ∧ n ≤ 1000000) = true ∧ (T.ret (.sl 0 0 0) [.at true (.fl .f32 [])]).run = some (v, h'))
  cases e2
  have hd := of_decide_eq_true hd
  obtain ⟨c1, c2, rfl, hc1, hc2⟩ : ∃ c1 c2, cvs = [c1, c2] ∧ c1 = .slice none 0 0 ∧ c2 = .int .i64 n := by
    match cvs, hv with
    | [c1, c2], hv => exact ⟨c1, c2, rfl, hv.1, hv.2.1⟩
  subst hc1
  subst hc2
  obtain ⟨m, rfl⟩ : ∃ m : Nat, n = (m : Int) := ⟨n.toNat, by omega⟩
  refine .inl ⟨by kernel_rfl, (grow_calls m w (by omega) (by omega)).mono fun e w' ⟨cells, c, he, hw, hle, hsz⟩ => ⟨_, he, ?_⟩⟩
  subst hw
  have hz : μ.l.length = 0 := hr.len
  exact goes_drew (n := 1) hr (goes_sl (hr.drewN 1) (.fl .f32 []) 40 cells (fun j x hx => by cases hx) 0 c (Nat.zero_le _) hle (by rw [hsz]; exact Nat.mul_one _))
end Go.Proofs.Ythjncajdognojaa.Ab

namespace Go.Proofs.Ythjncajdognojaa.Ab
set_option linter.unusedVariables false
set_option linter.unusedSimpArgs false
open Go
inductive Told
  | no
  | one (c : Bool) (s : St)
  | two (b c1 : Bool) (s1 : St) (c2 : Bool) (s2 : St)
def tu1 (g : St → Option (Bool × St)) (st : St) : Told := match g st with | some (c, s) => .one c s | none => .no
def tu2 (g : St → Option (Bool × (Bool × St) × (Bool × St))) (st : St) : Told := match g st with | some (b, (c1, s1), (c2, s2)) => .two b c1 s1 c2 s2 | none => .no
abbrev GsA := Nat → Option (St → Told)
def execA {R : Type} (ty : Ty) (fns : Fns) (an : Ann) (gs : GsA) (N k : Nat) : Code → St → (X → St → Option R) → Option R
  | .skip, st, K => K .norm st
  | .label _, st, K => K .norm st
  | .region id ops draw, st, K =>
    match gs id with
    | some g => match g st with
      | .one c st' => match c with
        | true => K .norm st'
        | false => none
      | .two b c1 s1 c2 s2 => match b with
        | true => match c1 with
          | true => K .norm s1
          | false => none
        | false => match c2 with
          | true => K .norm s2
          | false => none
      | .no => none
    | none =>
      match draw with
      | true => match drawOk (an.cl id) ops with
        | true => opsK ty fns (an.cl id) ops 0 ops.toList st.t st.h fun t h => K .norm ⟨t, h⟩
        | false => none
      | false => opsK ty fns (fun _ => .plain) ops 0 ops.toList st.t st.h fun t h => K .norm ⟨t, h⟩
  | .seq a b, st, K => execA ty fns an gs N k a st fun x st => match x with
    | .norm => execA ty fns an gs N k b st K
    | x => K x st
  | .cond c a b, st, K => match ev st.t c with
    | .bool p => match p with
      | true => execA ty fns an gs N k a st K
      | false => execA ty fns an gs N k b st K
    | _ => none
  | .block id b, st, K => execA ty fns an gs N k b st fun x st => match x with
    | .exit j => match decide (j = id) with
      | true => K .norm st
      | false => K (.exit j) st
    | x => K x st
  | .loop b, st, K => loopK k ((firstRegion b).bind an.keep) (fun st K => execA ty fns an gs N k b st K) N st K
  | .exit id, st, K => K (.exit id) st
  | .ret, st, K => K .ret st
  | _, _, _ => none
def runA (ty : Ty) (fns : Fns) (an : Ann) (gs : GsA) (N : Nat) (fn : Func) (vs : List V) (h : H) : Option (V × H) :=
  match fn.body with
  | none => none
  | some code => execA ty fns an gs N h.length code ⟨vs ++ List.replicate (fn.ntmps - vs.length) V.no, h⟩ fun x st => match x with
    | .exit _ => none
    | _ => finish ty fn h.length st
section
variable {P : Program} {R : Type} {r : R}
def EndsA (P : Program) (id : Nat) (ops : Array Oper) (draw : Bool) (μ0 : Mu) (h0 : H) (w0 : World) (st s : St) : Prop :=
  ∀ (Q : Exit → Act → World → Prop), (∀ μ a w, Inv μ0 h0 w0 μ s a w → Q .normal a w) → ∀ μ a w, Inv μ0 h0 w0 μ st a w → (Code.region id ops draw).wp P Q a w
def GSoundA (P : Program) (id : Nat) (ops : Array Oper) (draw : Bool) (g : St → Told) : Prop :=
  ∀ (μ0 : Mu) (h0 : H) (w0 : World) (st : St), (∀ s, g st = .one true s → EndsA P id ops draw μ0 h0 w0 st s) ∧
    (∀ s1 c2 s2, g st = .two true true s1 c2 s2 → EndsA P id ops draw μ0 h0 w0 st s1) ∧ (∀ c1 s1 s2, g st = .two false c1 s1 true s2 → EndsA P id ops draw μ0 h0 w0 st s2)
def GSound1 (P : Program) (id : Nat) (ops : Array Oper) (draw : Bool) (g : St → Option (Bool × St)) : Prop :=
  ∀ (μ0 : Mu) (h0 : H) (w0 : World) (st st' : St), g st = some (true, st') → ∀ (Q : Exit → Act → World → Prop), (∀ μ a w, Inv μ0 h0 w0 μ st' a w → Q .normal a w) → ∀ μ a w, Inv μ0 h0 w0 μ st a w → (Code.region id ops draw).wp P Q a w
def GSound2 (P : Program) (id : Nat) (ops : Array Oper) (draw : Bool) (g : St → Option (Bool × (Bool × St) × (Bool × St))) : Prop :=
  ∀ (μ0 : Mu) (h0 : H) (w0 : World) (st : St) (b c1 c2 : Bool) (s1 s2 : St), g st = some (b, (c1, s1), (c2, s2)) →
    (b = true → c1 = true → EndsA P id ops draw μ0 h0 w0 st s1) ∧ (b = false → c2 = true → EndsA P id ops draw μ0 h0 w0 st s2)
theorem tu1_inv {g : St → Option (Bool × St)} {st s : St} (h : tu1 g st = .one true s) : g st = some (true, s) := by
  unfold tu1 at h
  split at h
  · rename_i c s' e
    cases h
    exact e
  · cases h
theorem tu1_snd {id : Nat} {ops : Array Oper} {draw : Bool} {g : St → Option (Bool × St)} (h : GSound1 P id ops draw g) : GSoundA P id ops draw (tu1 g) := by
  intro μ0 h0 w0 st
  refine ⟨fun s e => h μ0 h0 w0 st s (tu1_inv e), fun s1 c2 s2 e => ?_, fun c1 s1 s2 e => ?_⟩
  all_goals
    unfold tu1 at e
    split at e <;> cases e
theorem tu2_snd {id : Nat} {ops : Array Oper} {draw : Bool} {g : St → Option (Bool × (Bool × St) × (Bool × St))} (h : GSound2 P id ops draw g) : GSoundA P id ops draw (tu2 g) := by
  intro μ0 h0 w0 st
  refine ⟨fun s e => ?_, fun s1 c2 s2 e => ?_, fun c1 s1 s2 e => ?_⟩
  all_goals
    unfold tu2 at e
    split at e
    · rename_i b c1' s1' c2' s2' e'
      first
        | cases e; exact (h μ0 h0 w0 st _ _ _ _ _ e').1 rfl rfl
        | cases e; exact (h μ0 h0 w0 st _ _ _ _ _ e').2 rfl rfl
        | cases e
    · cases e
def RegOkA (P : Program) (gs : GsA) : Code → Prop
  | .region id ops draw => match gs id with | some g => GSoundA P id ops draw g | none => True
  | .seq a b => RegOkA P gs a ∧ RegOkA P gs b
  | .cond _ a b => RegOkA P gs a ∧ RegOkA P gs b
  | .block _ b => RegOkA P gs b
  | .loop b => RegOkA P gs b
  | _ => True
theorem execA_ok {ty : Ty} (hty : TyOk P ty) {fns : Fns} (hfn : ∀ f, FnT P f (fns f)) (hm : P.follows .mixedOrders = true) {an : Ann} {gs : GsA} {N : Nat} {μ0 : Mu} {h0 : H} {w0 : World} :
    ∀ (c : Code), RegOkA P gs c → ∀ {st : St} {K : X → St → Option R}, execA ty fns an gs N μ0.l.length c st K = some r →
      ∀ Q, (∀ x st', K x st' = some r → ∀ μ a w, Inv μ0 h0 w0 μ st' a w → Q (X.to x) a w) → ∀ μ a w, Inv μ0 h0 w0 μ st a w → c.wp P Q a w := by
  intro c
  induction c with
  | skip => intro hg st K e Q hQ μ a w hi; exact wp_skip (hQ .norm st e μ a w hi)
  | label l => intro hg st K e Q hQ μ a w hi; exact wp_label (hQ .norm st e μ a w hi)
  | region id ops draw =>
    intro hg st K e Q hQ μ a w hi
    simp only [execA] at e
    simp only [RegOkA] at hg
    cases hgs : gs id with
    | some g =>
      rw [hgs] at e hg
      simp only at e hg
      obtain ⟨g1, g2, g3⟩ := hg μ0 h0 w0 st
      cases hgst : g st with
      | no => rw [hgst] at e; cases e
      | one c st' =>
        rw [hgst] at e
        cases c with
        | false => cases e
        | true => exact g1 st' hgst Q (fun μ a w hi => hQ .norm st' e μ a w hi) μ a w hi
      | two b c1 s1 c2 s2 =>
        rw [hgst] at e
        cases b with
        | true =>
          cases c1 with
          | false => cases e
          | true => exact g2 s1 c2 s2 hgst Q (fun μ a w hi => hQ .norm s1 e μ a w hi) μ a w hi
        | false =>
          cases c2 with
          | false => cases e
          | true => exact g3 c1 s1 s2 hgst Q (fun μ a w hi => hQ .norm s2 e μ a w hi) μ a w hi
    | none =>
      rw [hgs] at e
      simp only at e
      split at e
      · split at e
        · rename_i hok
          obtain ⟨t', h', h1, h2⟩ := opsK_lex hty hfn e
          exact wp_region_any hm (draw_wp (fun μ a w hi => hQ .norm _ h1 μ a w hi) hok h2 ⟨hi.slots, hi.defers, hi.ev.trans (Ev.drewN hi.ev.rel 1)⟩)
        · cases e
      · obtain ⟨t', h', h1, h2⟩ := opsK_lex hty hfn e
        exact wp_region_list (lex_wp (fun μ a w hi => hQ .norm _ h1 μ a w hi) h2 hi)
  | seq x y ihx ihy =>
    intro hg st K e Q hQ μ a w hi
    simp only [execA] at e
    refine wp_seq (ihx hg.1 e _ (fun x st' hx μ' a' w' hi' => ?_) μ a w hi)
    cases x with
    | norm => exact ihy hg.2 hx Q hQ μ' a' w' hi'
    | exit id => exact hQ _ st' hx μ' a' w' hi'
    | ret => exact hQ _ st' hx μ' a' w' hi'
  | cond c x y ihx ihy =>
    intro hg st K e Q hQ μ a w hi
    simp only [execA] at e
    split at e
    · rename_i p hc
      have h1 := ev_rep hi.slots c
      rw [hc] at h1
      split at e
      · exact wp_cond_true (repBool h1) (ihx hg.1 e Q hQ μ a w hi)
      · exact wp_cond_false (repBool h1) (ihy hg.2 e Q hQ μ a w hi)
    · cases e
  | block id b ih =>
    intro hg st K e Q hQ μ a w hi
    simp only [execA] at e
    refine wp_block (ih hg e _ (fun x st' hx μ' a' w' hi' => ?_) μ a w hi)
    cases x with
    | norm => exact hQ _ st' hx μ' a' w' hi'
    | exit j =>
      simp only at hx
      simp only [X.to, Exit.inBlock]
      split at hx
      · rename_i hj
        simp only [decide_eq_true_eq] at hj
        rw [if_pos hj]
        exact hQ _ st' hx μ' a' w' hi'
      · rename_i hj
        simp only [decide_eq_false_iff_not] at hj
        rw [if_neg hj]
        exact hQ _ st' hx μ' a' w' hi'
    | ret => exact hQ _ st' hx μ' a' w' hi'
  | loop b ih =>
    intro hg st K e Q hQ μ a w hi
    simp only [execA, loopK] at e
    obtain ⟨st', h1, h2⟩ := tidy_ok (h0 := h0) (w0 := w0) e
    obtain ⟨μ', hi'⟩ := h2 μ a w hi
    exact wp_loop_rounds N (loopH_ok (fun hb Q' hQ' => ih hg hb Q' hQ') hQ h1 μ' a w hi')
  | rangeFunc f ps x y _ _ => intro hg st K e; simp only [execA] at e; cases e
  | exit id => intro hg st K e Q hQ μ a w hi; exact wp_exit (hQ (.exit id) st e μ a w hi)
  | scope b _ => intro hg st K e; simp only [execA] at e; cases e
  | goto l => intro hg st K e; simp only [execA] at e; cases e
  | ret => intro hg st K e Q hQ μ a w hi; exact wp_ret (hQ .ret st e μ a w hi)
  | refuse s => intro hg st K e; simp only [execA] at e; cases e
def GuardOk (ops : Array Oper) (o : Oper) (t : List V) : Prop := ∀ g want, o.guard = some (g, want) → ∃ d, dstAt ops g = some d ∧ nth t d = .bool want
def AnyRun (P : Program) (ops : Array Oper) (fin : List V → H → Prop) : Nat → Array Bool → List V → H → Prop
  | 0, listed, t, h => Region.ready .any ops listed = [] ∧ fin t h
  | n + 1, listed, t, h => (Region.ready .any ops listed = [] → fin t h) ∧
    ∀ i ∈ Region.ready .any ops listed, ∃ o, ops[i]? = some o ∧
      ((∃ v h1, GuardOk ops o t ∧ OpOk P o t h v h1 ∧ AnyRun P ops fin n (listed.setIfInBounds i true) (putV t o.dst v) h1) ∨
       (∃ g want d, o.guard = some (g, want) ∧ dstAt ops g = some d ∧ (nth t d = .bool (!want) ∨ nth t d = V.no) ∧ AnyRun P ops fin n (listed.setIfInBounds i true) (putV t o.dst V.no) h))
theorem any_wp {ops : Array Oper} {Q : Exit → Act → World → Prop} {μ0 : Mu} {h0 : H} {w0 : World} {fin : List V → H → Prop} (hQ : ∀ t h, fin t h → ∀ μ a w, Inv μ0 h0 w0 μ ⟨t, h⟩ a w → Q .normal a w) :
    ∀ (n : Nat) {listed : Array Bool} {t : List V} {h : H}, AnyRun P ops fin n listed t h → ∀ {μ : Mu} {a : Act} {w : World}, Inv μ0 h0 w0 μ ⟨t, h⟩ a w → wpAny P .any ops Q n listed a w
  | 0, listed, t, h, hA, μ, a, w, hi => ⟨hA.1, hQ t h hA.2 μ a w hi⟩
  | n + 1, listed, t, h, hA, μ, a, w, hi => by
    refine ⟨fun h0 => hQ t h (hA.1 h0) μ a w hi, fun i hr => ?_⟩
    obtain ⟨o, ho, hh⟩ := hA.2 i hr
    unfold wpOp
    simp only [ho]
    rcases hh with ⟨v, h1, hg, hop, hA'⟩ | ⟨g, want, d, hg, hd, hn, hA'⟩
    · have hw : Region.wanted o (yielded ops a.tmps) = true := by
        cases hgd : o.guard with
        | none => unfold Region.wanted; rw [hgd]
        | some p =>
          obtain ⟨g, want⟩ := p
          obtain ⟨d, hd, hn⟩ := hg g want hgd
          exact (wanted_of hi.slots hgd hd).1 hn
      rw [if_pos hw]
      left
      refine hop μ a w (fun x _ => ev_rep hi.slots x) hi.ev.rel _ Q fun cv w' hgo => ?_
      obtain ⟨μ', he, hcv⟩ := hgo
      exact any_wp hQ n hA' ⟨(hi.slots.pre he.pre).put hcv, by cases o.dst <;> exact hi.defers, hi.ev.trans he⟩
    · have hw := (wanted_of hi.slots hg hd).2 hn
      rw [if_neg (by rw [hw]; simp)]
      exact any_wp hQ n hA' ⟨hi.slots.put (RepV.no μ), by cases o.dst <;> exact hi.defers, hi.ev⟩
def FinTo (keep : List Nat) (k : Nat) (st' : St) (t : List V) (h : H) : Prop :=
  ∃ ids, ids.Nodup ∧ ids.take k = List.range k ∧ optMap (V.ren ids) (mask keep 0 t) = some st'.t ∧ subH h ids = some st'.h
def viewT (keep : List Nat) (n : Nat) (t : List V) : List V := (List.range n).map fun i => match keep.contains i with | true => nth t i | false => .any
theorem view_congr {keep : List Nat} {n : Nat} {t T0 : List V} (h : ∀ i ∈ keep, nth t i = nth T0 i) : viewT keep n t = viewT keep n T0 := by
  unfold viewT
  refine List.map_congr_left fun i _ => ?_
  cases hc : keep.contains i with
  | true => exact h i (List.contains_iff_mem.mp hc)
  | false => rfl
theorem nth_get : ∀ {t : List V} {i : Nat} {v : V}, t[i]? = some v → nth t i = v
  | [], i, v, h => by simp at h
  | x :: t, 0, v, h => by simpa [nth] using h
  | x :: t, i + 1, v, h => by
    have h2 : t[i]? = some v := by simpa using h
    have h3 : nth t i = v := nth_get (t := t) (i := i) h2
    exact h3
theorem nth_out : ∀ {t : List V} {i : Nat}, t.length ≤ i → nth t i = nth [] i
  | [], i, _ => rfl
  | x :: t, 0, h => by simp at h
  | x :: t, i + 1, h => by
    have h2 : t.length ≤ i := by simpa using h
    have h3 := nth_out h2
    show nth t i = _
    rw [h3]
    cases i <;> rfl
theorem view_nth {keep : List Nat} {n : Nat} {t : List V} (hl : t.length = n) (i : Nat) : nth (viewT keep n t) i = nth t i ∨ nth (viewT keep n t) i = V.any := by
  by_cases hi : i < n
  · have e : (viewT keep n t)[i]? = some (match keep.contains i with | true => nth t i | false => .any) := by
      unfold viewT
      rw [List.getElem?_map, List.getElem?_range hi]
      rfl
    rw [nth_get e]
    cases keep.contains i with
    | true => exact .inl rfl
    | false => exact .inr rfl
  · left
    rw [nth_out (t := viewT keep n t) (by unfold viewT; simp; omega), nth_out (t := t) (by omega)]
theorem told {ops : Array Oper} {id : Nat} {Q : Exit → Act → World → Prop} {μ0 : Mu} {h0 : H} {w0 : World} {st st' : St} (keep : List Nat) (hm : P.follows .mixedOrders = true)
    {n : Nat} (hs : ops.size = n) {L0 : Array Bool} (hl0 : Array.replicate n false = L0) {T0 : List V} {H0 : H} {k : Nat} {keep0 : List Nat} {n0 : Nat} (hl : st.t.length = n0) (et : viewT keep0 n0 st.t = T0) (eh : st.h = H0) (ek : H0.length = k) (hA : AnyRun P ops (FinTo keep k st') n L0 T0 H0)
    (hQ : ∀ μ a w, Inv μ0 h0 w0 μ st' a w → Q .normal a w) {μ : Mu} {a : Act} {w : World} (hi : Inv μ0 h0 w0 μ st a w) : (Code.region id ops true).wp P Q a w := by
  subst hl0
  subst hs
  subst ek
  subst et
  subst eh
  refine wp_region_any hm ?_
  have hk0 : μ0.l.length ≤ st.h.length := by
    have h1 := hi.ev.pre.len
    have h2 := hi.ev.rel.len
    omega
  have hsl : Slots μ (viewT keep0 n0 st.t) a := by
    refine ⟨?_, fun i => ?_⟩
    · rw [hi.slots.1, hl]
      unfold viewT
      simp
    · rcases view_nth (keep := keep0) hl i with h | h
      · rw [h]; exact hi.slots.2 i
      · rw [h]; trivial
  have hj : Inv μ0 h0 w0 μ ⟨viewT keep0 n0 st.t, st.h⟩ a (w.drewN 1) := ⟨hsl, hi.defers, hi.ev.trans (Ev.drewN hi.ev.rel 1)⟩
  refine any_wp (fun t h hf μ' a' w' hi' => ?_) ops.size hA hj
  obtain ⟨ids, f1, f2, f3, f4⟩ := hf
  have hids : ids = List.range μ0.l.length ++ ids.drop μ0.l.length := by
    conv => lhs; rw [← List.take_append_drop μ0.l.length ids]
    congr 1
    have : ids.take μ0.l.length = (ids.take st.h.length).take μ0.l.length := by rw [List.take_take, Nat.min_eq_left hk0]
    rw [this, f2, List.take_range, Nat.min_eq_left hk0]
  obtain ⟨q1, q2⟩ := hi'.ev.pick hids f1 f4
  refine hQ (pick μ' ids) a' w' ⟨⟨?_, fun i => ?_⟩, hi'.defers, q1⟩
  · rw [hi'.slots.1, optMap_len f3, mask_len]
  · refine nth_ren q2 f3 ?_
    rcases mask_nth (keep := keep) (t := t) (n := 0) (i := i) with h3 | h3
    · rw [h3]; exact hi'.slots.2 i
    · rw [h3]; trivial
theorem fnA_ok {ty : Ty} (hty : TyOk P ty) {fns : Fns} (hfn : ∀ f, FnT P f (fns f)) (hm : P.follows .mixedOrders = true) {f : FuncId} {fn : Func} {code : Code} (hf : P.funcs[f]? = some fn) (hb : fn.body = some code)
    (hname : (fn.name == "runtime.NumGoroutine") = false) {g : List V → H → T} (an : Ann) (gs : GsA) (hgs : RegOkA P gs code)
    (H : ∀ vs h v h', (g vs h).run = some (v, h') → ∃ N, runA ty fns an gs N fn vs h = some (v, h')) : FnT P f g := by
  intro vs h v h' hg μ w cvs hr hv
  left
  obtain ⟨N, hrun⟩ := H vs h v h' hg
  refine ⟨?_, ?_⟩
  · have hname' : ¬ (fn.name = "runtime.NumGoroutine") := by simpa using hname
    simp [callFunc, hf, hname', hb]
  · refine calls_of_wp hf hb ?_
    unfold runA at hrun
    rw [hb] at hrun
    dsimp only at hrun
    rw [← hr.len] at hrun
    obtain ⟨hlen, hnth⟩ := repVs_nth (n := fn.ntmps - vs.length) hv
    have hinv : Inv μ h w μ ⟨vs ++ List.replicate (fn.ntmps - vs.length) V.no, h⟩ { tmps := ⟨cvs⟩ ++ Array.replicate (fn.ntmps - (⟨cvs⟩ : Array Value).size) undef, defers := [] } w := by
      refine ⟨⟨by simp [hlen], fun i => ?_⟩, rfl, Ev.refl hr⟩
      have := hnth i
      rw [Array.getD_eq_getD_getElem?]
      have e : ((⟨cvs⟩ : Array Value) ++ Array.replicate (fn.ntmps - (⟨cvs⟩ : Array Value).size) undef)[i]? = (cvs ++ List.replicate (fn.ntmps - vs.length) undef)[i]? := by
        rw [← Array.getElem?_toList, Array.toList_append, Array.toList_replicate]
        rw [show (⟨cvs⟩ : Array Value).size = vs.length from hlen.symm]
      rw [e]
      exact this
    have hend := finish_ok (P := P) (fn := fn) (μ := μ) (h := h) (w := w) (v := v) (h' := h') hty
    refine execA_ok hty hfn hm code hgs hrun _ (fun x st' hx μ' a' w' hi' => ?_) μ _ w hinv
    cases x with
    | norm => exact hend st' a' w' hx μ' hi'
    | exit id => cases hx
    | ret => exact hend st' a' w' hx μ' hi'
def NextOk (P : Program) (ops : Array Oper) (fin : List V → H → Prop) (n : Nat) (listed : Array Bool) (t : List V) (h : H) (i : Nat) : Prop := ∃ o, ops[i]? = some o ∧
      ((∃ v h1, GuardOk ops o t ∧ OpOk P o t h v h1 ∧ AnyRun P ops fin n (listed.setIfInBounds i true) (putV t o.dst v) h1) ∨
       (∃ g want d, o.guard = some (g, want) ∧ dstAt ops g = some d ∧ (nth t d = .bool (!want) ∨ nth t d = V.no) ∧ AnyRun P ops fin n (listed.setIfInBounds i true) (putV t o.dst V.no) h))
theorem any_next {ops : Array Oper} {fin : List V → H → Prop} {n : Nat} {listed : Array Bool} {t : List V} {h : H} (rs : List Nat) (hr : Region.ready .any ops listed = rs) (hne : rs ≠ [])
    (hs : ∀ i ∈ rs, NextOk P ops fin n listed t h i) : AnyRun P ops fin (n + 1) listed t h :=
  ⟨fun h0 => absurd (hr ▸ h0) hne, hr ▸ hs⟩
end
def bitsA (n k : Nat) : Array Bool := ((List.range n).map fun i => k.testBit i).toArray
def setsA : List (Nat × V) → List V → List V
  | [], t => t
  | (d, v) :: l, t => setsA l (t.set d v)
def selA (k : Nat) (l : List (Nat × Nat)) (v : Nat → V) : List (Nat × V) := l.filterMap fun p => match k.testBit p.1 with | true => some (p.2, v p.1) | false => none
theorem two1 {i a : Nat} (h : i ∈ [a]) : i = a := by simpa using h
theorem two2 {i a b : Nat} (h : i ∈ [a, b]) : i = a ∨ i = b := by simpa using h
theorem two3 {i a b c : Nat} (h : i ∈ [a, b, c]) : i = a ∨ i = b ∨ i = c := by simpa using h
theorem two4 {i a b c d : Nat} (h : i ∈ [a, b, c, d]) : i = a ∨ i = b ∨ i = c ∨ i = d := by simpa using h
theorem someD {o : Option Nat} (h : o.isSome = true) : o = some (o.getD 0) := by
  cases o with
  | none => cases h
  | some x => rfl
theorem notT {c : Bool} (h : (!c) = true) : c = false := by cases c <;> first | rfl | cases h
def opD3 (o : Oper) : Op × Option Tmp × Option (Nat × Bool) := (o.op, o.dst, o.guard)
def GuardAt (ops : Array Oper) (t : List V) : Option (Nat × Bool) → Prop
  | none => True
  | some (g, want) => ∃ d, dstAt ops g = some d ∧ nth t d = .bool want
theorem any_one {ops : Array Oper} {fin : List V → H → Prop} {n : Nat} {listed l1 : Array Bool} {t t1 : List V} {h h1 : H} {i : Nat} {op : Op} {d : Option Tmp} {v : V} {fns : Fns} (gd : Option (Nat × Bool)) (hfn : ∀ f, FnT Try.prog f (fns f))
    (hop : (ops[i]?).map opD3 = some (op, d, gd)) (hg : GuardAt ops t gd) (e : stepK ty fns .plain t h op (fun v h => some (v, h)) = some (v, h1)) (hl : listed.setIfInBounds i true = l1) (ht : putV t d v = t1)
    (hA : AnyRun Try.prog ops fin n l1 t1 h1) : NextOk Try.prog ops fin n listed t h i := by
  rw [Option.map_eq_some_iff] at hop
  obtain ⟨o, ho, he⟩ := hop
  unfold opD3 at he
  simp only [Prod.mk.injEq] at he
  obtain ⟨a, b, c⟩ := he
  obtain ⟨v', h', e1, e2, _⟩ := step_ok tyOk hfn a e
  cases e1
  subst hl
  refine ⟨o, ho, .inl ⟨v, h1, fun g want hgd => ?_, e2, ?_⟩⟩
  · rw [c] at hgd
    subst hgd
    exact hg
  · rw [b, ht]
    exact hA
theorem any_skip {ops : Array Oper} {fin : List V → H → Prop} {n : Nat} {listed l1 : Array Bool} {t t1 : List V} {h : H} {i : Nat} {op : Op} {d : Option Tmp} {g dd : Nat} {want : Bool}
    (hop : (ops[i]?).map opD3 = some (op, d, some (g, want))) (hd : dstAt ops g = some dd) (hn : nth t dd = .bool (!want) ∨ nth t dd = V.no) (hl : listed.setIfInBounds i true = l1) (ht : putV t d V.no = t1)
    (hA : AnyRun Try.prog ops fin n l1 t1 h) : NextOk Try.prog ops fin n listed t h i := by
  rw [Option.map_eq_some_iff] at hop
  obtain ⟨o, ho, he⟩ := hop
  unfold opD3 at he
  simp only [Prod.mk.injEq] at he
  obtain ⟨a, b, c⟩ := he
  subst hl
  refine ⟨o, ho, .inr ⟨g, want, dd, c, hd, hn, ?_⟩⟩
  rw [b, ht]
  exact hA
def regAt : Code → Nat → Option (Array Oper)
  | .region i ops _, id => if i = id then some ops else none
  | .seq a b, id => match regAt a id with | some x => some x | none => regAt b id
  | .cond _ a b, id => match regAt a id with | some x => some x | none => regAt b id
  | .block _ b, id => regAt b id
  | .loop b, id => regAt b id
  | _, _ => none
def codeOf (fn : Func) : Code := fn.body.getD .skip
def regList : Code → List (Nat × Array Oper × Bool)
  | .region i ops d => [(i, ops, d)]
  | .seq a b => regList a ++ regList b
  | .cond _ a b => regList a ++ regList b
  | .block _ b => regList b
  | .loop b => regList b
  | _ => []
theorem regOk_list {P : Program} {gs : GsA} : ∀ c : Code, (∀ p ∈ regList c, ∀ g, gs p.1 = some g → GSoundA P p.1 p.2.1 p.2.2 g) → RegOkA P gs c := by
  intro c
  induction c with
  | region i ops d =>
    intro h
    show match gs i with | some g => GSoundA P i ops d g | none => True
    cases hg : gs i with
    | none => trivial
    | some g => exact h (i, ops, d) (by simp [regList]) g hg
  | seq a b iha ihb => intro h; exact ⟨iha fun p hp => h p (by simp [regList, hp]), ihb fun p hp => h p (by simp [regList, hp])⟩
  | cond x a b iha ihb => intro h; exact ⟨iha fun p hp => h p (by simp [regList, hp]), ihb fun p hp => h p (by simp [regList, hp])⟩
  | block i b ih => intro h; exact ih fun p hp => h p (by simpa [regList] using hp)
  | loop b ih => intro h; exact ih fun p hp => h p (by simpa [regList] using hp)
  | _ => intro _; trivial
abbrev kEndA (fn : Func) (k : Nat) : X → St → Option (V × H) := fun x st => match x with | .exit _ => none | _ => finish ty fn k st
abbrev kSeqA {R : Type} (fns : Fns) (an : Ann) (gs : GsA) (N k : Nat) (c : Code) (K : X → St → Option R) : X → St → Option R := fun x st => match x with | .norm => execA ty fns an gs N k c st K | x => K x st
end Go.Proofs.Ythjncajdognojaa.Ab

namespace Go.Proofs.Ythjncajdognojaa.Ab
set_option linter.unusedVariables false
set_option linter.unusedSimpArgs false
open Go
def gClo : GT := fun vs h => match vs, h with | [.sl 0 0 m], [.at rw (.fl .f32 l)] => .ite (decide (l.length = m ∧ 1 ≤ m ∧ m < 2147483648)) (.ret (.sl 1 0 m) [.at rw (.fl .f32 l), .at true (.fl .f32 l)]) .no | _, _ => .no
def tab_cloI : Fns := tabT []
theorem tabok_cloI : ∀ f, FnT Try.prog f (tab_cloI f) := tabT_nil
theorem run_cloI (N : Nat) (m : Nat) (rw : Bool) (l : List Nat) : run ty tab_cloI ann0 N Try.f21 [.sl 0 0 m] [.at rw (.fl .f32 l)]
    = (match decide (0 + m * 1 ≤ l.length) with | true => (match apok true 0 1 0 1 (0 + m) 4 with | true => some (.sl 1 0 (0 + m), [.at rw (.fl .f32 l), .at true (.fl .f32 (([] : List Nat) ++ ((l.drop 0).take (m * 1))))]) | false => none) | false => none) := by
  kernel_rfl
theorem ok_cloI : FnT Try.prog 21 gClo := by
  refine fnT tabok_cloI Try.func21 rfl rfl ann0 fun vs h v h' e => ⟨0, ?_⟩
  unfold gClo at e
  split at e
  case h_2 => exact (T.no_inv e).elim
  rename_i m rw l
  obtain ⟨hd, e⟩ := T.pre_inv e
  obtain ⟨rfl, rfl⟩ := T.ret_inv e
  obtain ⟨rfl, h1, hb⟩ := of_decide_eq_true hd
  refine Eq.trans (run_cloI 0 _ _ _) ?_
  rw [decide_eq_true (show 0 + l.length * 1 ≤ l.length by omega)]
  have hap : ∀ q : Nat, q < 2147483648 → apok true 0 1 0 1 (0 + q) 4 = true := fun q hq => by
    unfold apok boundB
    rw [decide_eq_true (show 0 * 1 = 0 ∧ 1 = 1 from ⟨rfl, rfl⟩), decide_eq_true (show 0 + q ≤ 9223372036854775807 ∧ (0 + q) * 4 ≤ 140737488355328 by omega)]
    rfl
  dsimp only
  rw [hap _ hb]
  simp only [Nat.zero_add, Nat.mul_one, List.drop_zero, List.take_length, List.nil_append]
def gOwn : GT := fun vs h => match vs, h with
  | [.ptr 0 0], [.at r (.as 1 [.sl 1 0 n, .sl 2 0 m]), .at r0 (.fl .f32 l0), .at r1 (.fl .f32 l1)] => .ite (decide (l0.length = n ∧ n < 2147483648 ∧ l1.length = m ∧ m < 2147483648)) (.ret (.g [.sl 3 0 n, .sl 4 0 m]) [.at r (.as 1 [.sl 1 0 n, .sl 2 0 m]), .at r0 (.fl .f32 l0), .at r1 (.fl .f32 l1), .at true (.fl .f32 l0), .at true (.fl .f32 l1)]) .no
  | _, _ => .no
def gGive : GT := fun vs h => match vs, h with
  | [.g [.sl 0 0 n, .sl 1 0 m]], [.at r0 (.fl .f32 l0), .at r1 (.fl .f32 l1)] => .ite (decide (l0.length = n ∧ n < 2147483648 ∧ l1.length = m ∧ m < 2147483648)) (.ite (vsB l0 l1) (.ret (.tup [.g [.sl 0 0 n, .sl 1 0 m], .a (.bool true)]) [.at r0 (.fl .f32 l0), .at r1 (.fl .f32 l1)]) (.ret (.tup [.g [.nil, .nil], .a (.bool false)]) [.at r0 (.fl .f32 l0), .at r1 (.fl .f32 l1)])) .no
  | _, _ => .no
noncomputable def tab_ownS : Fns := tabT []
theorem tabok_ownS : ∀ f, FnT Try.prog f (tab_ownS f) := tabT_nil
noncomputable def opsownS_1 : Array Oper := (regAt (codeOf Try.f15) 1).getD #[]
def gownS_1 (st : St) : Option (Bool × St) := (match decide (st.t.length = 16) with | true => (match nth st.t 0 with | .ptr 0 0 => (match nth st.t 2 with | .ptr 3 0 => (match st.h with | [.at z2 (.as 1 [.sl 1 0 z4, .sl 2 0 z6]), .at z7 (.fl .f32 z8), .at z9 (.fl .f32 z10), .at true (.as 1 [.nil, .nil])] => some ((decide (0 + z4 * 1 ≤ z8.length)) && (apok true 0 1 0 1 (0 + z4) 4) && (decide (0 + z6 * 1 ≤ z10.length)) && (apok true 0 1 0 1 (0 + z6) 4), ⟨(.any :: .any :: .ptr 3 0 :: (anys 13 [])), [.at z2 (.as 1 [.sl 1 0 z4, .sl 2 0 z6]), .at z7 (.fl .f32 z8), .at z9 (.fl .f32 z10), .at true (.as 1 [.sl 4 0 (0 + z4), .sl 5 0 (0 + z6)]), .at true (.fl .f32 (([] : List Nat) ++ ((z8.drop 0).take (z4 * 1)))), .at true (.fl .f32 (([] : List Nat) ++ ((z10.drop 0).take (z6 * 1))))]⟩) | _ => none) | _ => none) | _ => none) | false => none)
abbrev zownS_1 := Bool × Nat × Nat × Bool × List Nat × Bool × List Nat
abbrev yownS_10 (z : zownS_1) : Bool := z.1
abbrev yownS_11 (z : zownS_1) : Nat := z.2.1
abbrev yownS_12 (z : zownS_1) : Nat := z.2.2.1
abbrev yownS_13 (z : zownS_1) : Bool := z.2.2.2.1
abbrev yownS_14 (z : zownS_1) : List Nat := z.2.2.2.2.1
abbrev yownS_15 (z : zownS_1) : Bool := z.2.2.2.2.2.1
abbrev yownS_16 (z : zownS_1) : List Nat := z.2.2.2.2.2.2
def sownS_1 (z : zownS_1) : List V := (.ptr 0 0 :: .any :: .ptr 3 0 :: (anys 13 []))
def hownS_1 (z : zownS_1) : H := [.at (yownS_10 z) (.as 1 [.sl 1 0 (yownS_11 z), .sl 2 0 (yownS_12 z)]), .at (yownS_13 z) (.fl .f32 (yownS_14 z)), .at (yownS_15 z) (.fl .f32 (yownS_16 z)), .at true (.as 1 [.nil, .nil])]
theorem hoownS_1_0 : (opsownS_1[0]?).map opD3 = some (.buildSlice 22 0 #[], some 3, none) := by kernel_rfl
theorem hoownS_1_1 : (opsownS_1[1]?).map opD3 = some (.move (.tmp 0), some 4, none) := by kernel_rfl
theorem hoownS_1_2 : (opsownS_1[2]?).map opD3 = some (.nilCheck (.tmp 4), some 5, none) := by kernel_rfl
theorem hoownS_1_3 : (opsownS_1[3]?).map opD3 = some (.fieldAddr 26 (.tmp 5) 0, some 6, none) := by kernel_rfl
theorem hoownS_1_4 : (opsownS_1[4]?).map opD3 = some (.load 22 (.tmp 6), some 7, none) := by kernel_rfl
theorem hoownS_1_5 : (opsownS_1[5]?).map opD3 = some (.call ⟨.builtin .append, #[.tmp 3, .tmp 7], #[22, 22]⟩, some 8, none) := by kernel_rfl
theorem hoownS_1_6 : (opsownS_1[6]?).map opD3 = some (.buildSlice 22 0 #[], some 9, none) := by kernel_rfl
theorem hoownS_1_7 : (opsownS_1[7]?).map opD3 = some (.move (.tmp 0), some 10, none) := by kernel_rfl
theorem hoownS_1_8 : (opsownS_1[8]?).map opD3 = some (.nilCheck (.tmp 10), some 11, none) := by kernel_rfl
theorem hoownS_1_9 : (opsownS_1[9]?).map opD3 = some (.fieldAddr 26 (.tmp 11) 1, some 12, none) := by kernel_rfl
theorem hoownS_1_10 : (opsownS_1[10]?).map opD3 = some (.load 22 (.tmp 12), some 13, none) := by kernel_rfl
theorem hoownS_1_11 : (opsownS_1[11]?).map opD3 = some (.call ⟨.builtin .append, #[.tmp 9, .tmp 13], #[22, 22]⟩, some 14, none) := by kernel_rfl
theorem hoownS_1_12 : (opsownS_1[12]?).map opD3 = some (.build 26 #[(0, .tmp 8), (1, .tmp 14)], some 15, none) := by kernel_rfl
theorem hoownS_1_13 : (opsownS_1[13]?).map opD3 = some (.store 26 (.tmp 2) (.tmp 15), none, none) := by kernel_rfl
def vownS_1_0 (z : zownS_1) : Nat → V
  | 0 => .sl 4 0 0
  | 1 => .ptr 0 0
  | 2 => .ptr 0 0
  | 3 => .ptr 0 0
  | 4 => .sl 1 0 (yownS_11 z)
  | 5 => .sl 5 0 (0 + (yownS_11 z))
  | 6 => .sl 6 0 0
  | 7 => .ptr 0 0
  | 8 => .ptr 0 0
  | 9 => .ptr 0 1
  | 10 => .sl 2 0 (yownS_12 z)
  | 11 => .sl 7 0 (0 + (yownS_12 z))
  | 12 => .g [.sl 5 0 (0 + (yownS_11 z)), .sl 7 0 (0 + (yownS_12 z))]
  | 13 => V.no
  | _ => .any
def qownS_1_0 (z : zownS_1) (k : Nat) (l : List (Nat × V)) : List V := setsA l (setsA (selA k [(0, 3), (1, 4), (2, 5), (3, 6), (4, 7), (5, 8), (6, 9), (7, 10), (8, 11), (9, 12), (10, 13), (11, 14), (12, 15)] (vownS_1_0 z)) (sownS_1 z))
def cownS_1_0 (z : zownS_1) : Prop := (decide (0 + (yownS_11 z) * 1 ≤ (yownS_14 z).length)) = true ∧ (apok true 0 1 0 1 (0 + (yownS_11 z)) 4) = true ∧ (decide (0 + (yownS_12 z) * 1 ≤ (yownS_16 z).length)) = true ∧ (apok true 0 1 0 1 (0 + (yownS_12 z)) 4) = true
abbrev aownS_1_0 (z : zownS_1) (m k : Nat) (t : List V) (h : H) : Prop := AnyRun Try.prog opsownS_1 (FinTo [2] 4 (⟨(.any :: .any :: .ptr 3 0 :: (anys 13 [])), [.at (yownS_10 z) (.as 1 [.sl 1 0 (yownS_11 z), .sl 2 0 (yownS_12 z)]), .at (yownS_13 z) (.fl .f32 (yownS_14 z)), .at (yownS_15 z) (.fl .f32 (yownS_16 z)), .at true (.as 1 [.sl 4 0 (0 + (yownS_11 z)), .sl 5 0 (0 + (yownS_12 z))]), .at true (.fl .f32 (([] : List Nat) ++ (((yownS_14 z).drop 0).take ((yownS_11 z) * 1)))), .at true (.fl .f32 (([] : List Nat) ++ (((yownS_16 z).drop 0).take ((yownS_12 z) * 1))))]⟩ : St)) m (bitsA 14 k) t h
def bownS_1_0 (z : zownS_1) : Nat → B
  | 0 => .gone
  | 1 => .at true (.fl .f32 (([] : List Nat) ++ (((yownS_14 z).drop 0).take ((yownS_11 z) * 1))))
  | 2 => .at true (.fl .f32 (([] : List Nat) ++ (((yownS_16 z).drop 0).take ((yownS_12 z) * 1))))
  | 3 => .at true (.fl .f32 ([] : List Nat))
  | _ => .gone
def HownS_1_0 (z : zownS_1) (l : List Nat) : H := hownS_1 z ++ l.map (bownS_1_0 z)
theorem anownS_1_1 {z : zownS_1} (hc : cownS_1_0 z) : aownS_1_0 z 0 16383 (qownS_1_0 z 16383 []) [.at (yownS_10 z) (.as 1 [.sl 1 0 (yownS_11 z), .sl 2 0 (yownS_12 z)]), .at (yownS_13 z) (.fl .f32 (yownS_14 z)), .at (yownS_15 z) (.fl .f32 (yownS_16 z)), .at true (.as 1 [.sl 5 0 (0 + (yownS_11 z)), .sl 7 0 (0 + (yownS_12 z))]), .gone, .at true (.fl .f32 (([] : List Nat) ++ (((yownS_14 z).drop 0).take ((yownS_11 z) * 1)))), .gone, .at true (.fl .f32 (([] : List Nat) ++ (((yownS_16 z).drop 0).take ((yownS_12 z) * 1))))] := ⟨by kernel_rfl, [0, 1, 2, 3, 5, 7], by decide, by decide, by kernel_rfl, by kernel_rfl⟩
theorem anownS_1_2 {z : zownS_1} (hc : cownS_1_0 z) : aownS_1_0 z 1 8191 (qownS_1_0 z 8191 []) (HownS_1_0 z [0, 1, 0, 2]) := by
  refine any_next [13] (by kernel_rfl) (by decide) fun i hi => ?_
  obtain rfl := two1 hi
  · exact any_one _ (v := vownS_1_0 z 13) tabok_ownS hoownS_1_13 (trivial) (by kernel_rfl) (by kernel_rfl) (by kernel_rfl) (anownS_1_1 hc)
theorem anownS_1_3 {z : zownS_1} (hc : cownS_1_0 z) : aownS_1_0 z 2 4095 (qownS_1_0 z 4095 []) (HownS_1_0 z [0, 1, 0, 2]) := by
  refine any_next [12] (by kernel_rfl) (by decide) fun i hi => ?_
  obtain rfl := two1 hi
  · exact any_one _ (v := vownS_1_0 z 12) tabok_ownS hoownS_1_12 (trivial) (by kernel_rfl) (by kernel_rfl) (by kernel_rfl) (anownS_1_2 hc)
theorem anownS_1_4 {z : zownS_1} (hc : cownS_1_0 z) : aownS_1_0 z 3 2047 (qownS_1_0 z 2047 []) (HownS_1_0 z [0, 1, 3]) := by
  refine any_next [11] (by kernel_rfl) (by decide) fun i hi => ?_
  obtain rfl := two1 hi
  · exact any_one _ (v := vownS_1_0 z 11) tabok_ownS hoownS_1_11 (trivial) (by
      refine Eq.trans (b := (match decide (0 + (yownS_12 z) * 1 ≤ (yownS_16 z).length) with | true => (match apok true 0 1 0 1 (0 + (yownS_12 z)) 4 with | true => some ((.sl 7 0 (0 + (yownS_12 z))), [.at (yownS_10 z) (.as 1 [.sl 1 0 (yownS_11 z), .sl 2 0 (yownS_12 z)]), .at (yownS_13 z) (.fl .f32 (yownS_14 z)), .at (yownS_15 z) (.fl .f32 (yownS_16 z)), .at true (.as 1 [.nil, .nil]), .gone, .at true (.fl .f32 (([] : List Nat) ++ (((yownS_14 z).drop 0).take ((yownS_11 z) * 1)))), .gone, .at true (.fl .f32 (([] : List Nat) ++ (((yownS_16 z).drop 0).take ((yownS_12 z) * 1))))]) | false => none) | false => none)) (by kernel_rfl) ?_
      rw [hc.2.2.1, hc.2.2.2]
      try rfl) (by kernel_rfl) (by kernel_rfl) (anownS_1_3 hc)
theorem anownS_1_5 {z : zownS_1} (hc : cownS_1_0 z) : aownS_1_0 z 4 1023 (qownS_1_0 z 1023 []) (HownS_1_0 z [0, 1, 3]) := by
  refine any_next [10] (by kernel_rfl) (by decide) fun i hi => ?_
  obtain rfl := two1 hi
  · exact any_one _ (v := vownS_1_0 z 10) tabok_ownS hoownS_1_10 (trivial) (by kernel_rfl) (by kernel_rfl) (by kernel_rfl) (anownS_1_4 hc)
theorem anownS_1_6 {z : zownS_1} (hc : cownS_1_0 z) : aownS_1_0 z 5 511 (qownS_1_0 z 511 []) (HownS_1_0 z [0, 1, 3]) := by
  refine any_next [9] (by kernel_rfl) (by decide) fun i hi => ?_
  obtain rfl := two1 hi
  · exact any_one _ (v := vownS_1_0 z 9) tabok_ownS hoownS_1_9 (trivial) (by kernel_rfl) (by kernel_rfl) (by kernel_rfl) (anownS_1_5 hc)
theorem anownS_1_7 {z : zownS_1} (hc : cownS_1_0 z) : aownS_1_0 z 6 255 (qownS_1_0 z 255 []) (HownS_1_0 z [0, 1, 3]) := by
  refine any_next [8] (by kernel_rfl) (by decide) fun i hi => ?_
  obtain rfl := two1 hi
  · exact any_one _ (v := vownS_1_0 z 8) tabok_ownS hoownS_1_8 (trivial) (by kernel_rfl) (by kernel_rfl) (by kernel_rfl) (anownS_1_6 hc)
theorem anownS_1_8 {z : zownS_1} (hc : cownS_1_0 z) : aownS_1_0 z 7 127 (qownS_1_0 z 127 []) (HownS_1_0 z [0, 1, 3]) := by
  refine any_next [7] (by kernel_rfl) (by decide) fun i hi => ?_
  obtain rfl := two1 hi
  · exact any_one _ (v := vownS_1_0 z 7) tabok_ownS hoownS_1_7 (trivial) (by kernel_rfl) (by kernel_rfl) (by kernel_rfl) (anownS_1_7 hc)
theorem anownS_1_9 {z : zownS_1} (hc : cownS_1_0 z) : aownS_1_0 z 4 1983 (qownS_1_0 z 1983 []) (HownS_1_0 z [0, 1]) := by
  refine any_next [6] (by kernel_rfl) (by decide) fun i hi => ?_
  obtain rfl := two1 hi
  · exact any_one _ (v := vownS_1_0 z 6) tabok_ownS hoownS_1_6 (trivial) (by kernel_rfl) (by kernel_rfl) (by kernel_rfl) (anownS_1_4 hc)
theorem anownS_1_10 {z : zownS_1} (hc : cownS_1_0 z) : aownS_1_0 z 5 959 (qownS_1_0 z 959 []) (HownS_1_0 z [0, 1]) := by
  refine any_next [6, 10] (by kernel_rfl) (by decide) fun i hi => ?_
  rcases two2 hi with rfl | rfl
  · exact any_one _ (v := vownS_1_0 z 6) tabok_ownS hoownS_1_6 (trivial) (by kernel_rfl) (by kernel_rfl) (by kernel_rfl) (anownS_1_5 hc)
  · exact any_one _ (v := vownS_1_0 z 10) tabok_ownS hoownS_1_10 (trivial) (by kernel_rfl) (by kernel_rfl) (by kernel_rfl) (anownS_1_9 hc)
theorem anownS_1_11 {z : zownS_1} (hc : cownS_1_0 z) : aownS_1_0 z 6 447 (qownS_1_0 z 447 []) (HownS_1_0 z [0, 1]) := by
  refine any_next [6, 9] (by kernel_rfl) (by decide) fun i hi => ?_
  rcases two2 hi with rfl | rfl
  · exact any_one _ (v := vownS_1_0 z 6) tabok_ownS hoownS_1_6 (trivial) (by kernel_rfl) (by kernel_rfl) (by kernel_rfl) (anownS_1_6 hc)
  · exact any_one _ (v := vownS_1_0 z 9) tabok_ownS hoownS_1_9 (trivial) (by kernel_rfl) (by kernel_rfl) (by kernel_rfl) (anownS_1_10 hc)
theorem anownS_1_12 {z : zownS_1} (hc : cownS_1_0 z) : aownS_1_0 z 7 191 (qownS_1_0 z 191 []) (HownS_1_0 z [0, 1]) := by
  refine any_next [6, 8] (by kernel_rfl) (by decide) fun i hi => ?_
  rcases two2 hi with rfl | rfl
  · exact any_one _ (v := vownS_1_0 z 6) tabok_ownS hoownS_1_6 (trivial) (by kernel_rfl) (by kernel_rfl) (by kernel_rfl) (anownS_1_7 hc)
  · exact any_one _ (v := vownS_1_0 z 8) tabok_ownS hoownS_1_8 (trivial) (by kernel_rfl) (by kernel_rfl) (by kernel_rfl) (anownS_1_11 hc)
theorem anownS_1_13 {z : zownS_1} (hc : cownS_1_0 z) : aownS_1_0 z 8 63 (qownS_1_0 z 63 []) (HownS_1_0 z [0, 1]) := by
  refine any_next [6, 7] (by kernel_rfl) (by decide) fun i hi => ?_
  rcases two2 hi with rfl | rfl
  · exact any_one _ (v := vownS_1_0 z 6) tabok_ownS hoownS_1_6 (trivial) (by kernel_rfl) (by kernel_rfl) (by kernel_rfl) (anownS_1_8 hc)
  · exact any_one _ (v := vownS_1_0 z 7) tabok_ownS hoownS_1_7 (trivial) (by kernel_rfl) (by kernel_rfl) (by kernel_rfl) (anownS_1_12 hc)
theorem anownS_1_14 {z : zownS_1} (hc : cownS_1_0 z) : aownS_1_0 z 0 16383 (qownS_1_0 z 16383 [(8, .sl 6 0 (0 + (yownS_11 z))), (9, .sl 5 0 0), (15, .g [.sl 6 0 (0 + (yownS_11 z)), .sl 7 0 (0 + (yownS_12 z))])]) [.at (yownS_10 z) (.as 1 [.sl 1 0 (yownS_11 z), .sl 2 0 (yownS_12 z)]), .at (yownS_13 z) (.fl .f32 (yownS_14 z)), .at (yownS_15 z) (.fl .f32 (yownS_16 z)), .at true (.as 1 [.sl 6 0 (0 + (yownS_11 z)), .sl 7 0 (0 + (yownS_12 z))]), .gone, .gone, .at true (.fl .f32 (([] : List Nat) ++ (((yownS_14 z).drop 0).take ((yownS_11 z) * 1)))), .at true (.fl .f32 (([] : List Nat) ++ (((yownS_16 z).drop 0).take ((yownS_12 z) * 1))))] := ⟨by kernel_rfl, [0, 1, 2, 3, 6, 7], by decide, by decide, by kernel_rfl, by kernel_rfl⟩
theorem anownS_1_15 {z : zownS_1} (hc : cownS_1_0 z) : aownS_1_0 z 1 8191 (qownS_1_0 z 8191 [(8, .sl 6 0 (0 + (yownS_11 z))), (9, .sl 5 0 0), (15, .g [.sl 6 0 (0 + (yownS_11 z)), .sl 7 0 (0 + (yownS_12 z))])]) (HownS_1_0 z [0, 0, 1, 2]) := by
  refine any_next [13] (by kernel_rfl) (by decide) fun i hi => ?_
  obtain rfl := two1 hi
  · exact any_one _ (v := vownS_1_0 z 13) tabok_ownS hoownS_1_13 (trivial) (by kernel_rfl) (by kernel_rfl) (by kernel_rfl) (anownS_1_14 hc)
theorem anownS_1_16 {z : zownS_1} (hc : cownS_1_0 z) : aownS_1_0 z 2 4095 (qownS_1_0 z 4095 [(8, .sl 6 0 (0 + (yownS_11 z))), (9, .sl 5 0 0)]) (HownS_1_0 z [0, 0, 1, 2]) := by
  refine any_next [12] (by kernel_rfl) (by decide) fun i hi => ?_
  obtain rfl := two1 hi
  · exact any_one _ (v := .g [.sl 6 0 (0 + (yownS_11 z)), .sl 7 0 (0 + (yownS_12 z))]) tabok_ownS hoownS_1_12 (trivial) (by kernel_rfl) (by kernel_rfl) (by kernel_rfl) (anownS_1_15 hc)
theorem anownS_1_17 {z : zownS_1} (hc : cownS_1_0 z) : aownS_1_0 z 3 2047 (qownS_1_0 z 2047 [(8, .sl 6 0 (0 + (yownS_11 z))), (9, .sl 5 0 0)]) (HownS_1_0 z [0, 3, 1]) := by
  refine any_next [11] (by kernel_rfl) (by decide) fun i hi => ?_
  obtain rfl := two1 hi
  · exact any_one _ (v := vownS_1_0 z 11) tabok_ownS hoownS_1_11 (trivial) (by
      refine Eq.trans (b := (match decide (0 + (yownS_12 z) * 1 ≤ (yownS_16 z).length) with | true => (match apok true 0 1 0 1 (0 + (yownS_12 z)) 4 with | true => some ((.sl 7 0 (0 + (yownS_12 z))), [.at (yownS_10 z) (.as 1 [.sl 1 0 (yownS_11 z), .sl 2 0 (yownS_12 z)]), .at (yownS_13 z) (.fl .f32 (yownS_14 z)), .at (yownS_15 z) (.fl .f32 (yownS_16 z)), .at true (.as 1 [.nil, .nil]), .gone, .gone, .at true (.fl .f32 (([] : List Nat) ++ (((yownS_14 z).drop 0).take ((yownS_11 z) * 1)))), .at true (.fl .f32 (([] : List Nat) ++ (((yownS_16 z).drop 0).take ((yownS_12 z) * 1))))]) | false => none) | false => none)) (by kernel_rfl) ?_
      rw [hc.2.2.1, hc.2.2.2]
      try rfl) (by kernel_rfl) (by kernel_rfl) (anownS_1_16 hc)
theorem anownS_1_18 {z : zownS_1} (hc : cownS_1_0 z) : aownS_1_0 z 4 1023 (qownS_1_0 z 1023 [(8, .sl 6 0 (0 + (yownS_11 z))), (9, .sl 5 0 0)]) (HownS_1_0 z [0, 3, 1]) := by
  refine any_next [10] (by kernel_rfl) (by decide) fun i hi => ?_
  obtain rfl := two1 hi
  · exact any_one _ (v := vownS_1_0 z 10) tabok_ownS hoownS_1_10 (trivial) (by kernel_rfl) (by kernel_rfl) (by kernel_rfl) (anownS_1_17 hc)
theorem anownS_1_19 {z : zownS_1} (hc : cownS_1_0 z) : aownS_1_0 z 5 511 (qownS_1_0 z 511 [(8, .sl 6 0 (0 + (yownS_11 z))), (9, .sl 5 0 0)]) (HownS_1_0 z [0, 3, 1]) := by
  refine any_next [9] (by kernel_rfl) (by decide) fun i hi => ?_
  obtain rfl := two1 hi
  · exact any_one _ (v := vownS_1_0 z 9) tabok_ownS hoownS_1_9 (trivial) (by kernel_rfl) (by kernel_rfl) (by kernel_rfl) (anownS_1_18 hc)
theorem anownS_1_20 {z : zownS_1} (hc : cownS_1_0 z) : aownS_1_0 z 6 255 (qownS_1_0 z 255 [(8, .sl 6 0 (0 + (yownS_11 z))), (9, .sl 5 0 0)]) (HownS_1_0 z [0, 3, 1]) := by
  refine any_next [8] (by kernel_rfl) (by decide) fun i hi => ?_
  obtain rfl := two1 hi
  · exact any_one _ (v := vownS_1_0 z 8) tabok_ownS hoownS_1_8 (trivial) (by kernel_rfl) (by kernel_rfl) (by kernel_rfl) (anownS_1_19 hc)
theorem anownS_1_21 {z : zownS_1} (hc : cownS_1_0 z) : aownS_1_0 z 7 127 (qownS_1_0 z 127 [(8, .sl 6 0 (0 + (yownS_11 z))), (9, .sl 5 0 0)]) (HownS_1_0 z [0, 3, 1]) := by
  refine any_next [7] (by kernel_rfl) (by decide) fun i hi => ?_
  obtain rfl := two1 hi
  · exact any_one _ (v := vownS_1_0 z 7) tabok_ownS hoownS_1_7 (trivial) (by kernel_rfl) (by kernel_rfl) (by kernel_rfl) (anownS_1_20 hc)
theorem anownS_1_22 {z : zownS_1} (hc : cownS_1_0 z) : aownS_1_0 z 4 2015 (qownS_1_0 z 2015 [(9, .sl 5 0 0)]) (HownS_1_0 z [3, 3]) := by
  refine any_next [5] (by kernel_rfl) (by decide) fun i hi => ?_
  obtain rfl := two1 hi
  · exact any_one _ (v := .sl 6 0 (0 + (yownS_11 z))) tabok_ownS hoownS_1_5 (trivial) (by
      refine Eq.trans (b := (match decide (0 + (yownS_11 z) * 1 ≤ (yownS_14 z).length) with | true => (match apok true 0 1 0 1 (0 + (yownS_11 z)) 4 with | true => some ((.sl 6 0 (0 + (yownS_11 z))), [.at (yownS_10 z) (.as 1 [.sl 1 0 (yownS_11 z), .sl 2 0 (yownS_12 z)]), .at (yownS_13 z) (.fl .f32 (yownS_14 z)), .at (yownS_15 z) (.fl .f32 (yownS_16 z)), .at true (.as 1 [.nil, .nil]), .gone, .at true (.fl .f32 ([] : List Nat)), .at true (.fl .f32 (([] : List Nat) ++ (((yownS_14 z).drop 0).take ((yownS_11 z) * 1))))]) | false => none) | false => none)) (by kernel_rfl) ?_
      rw [hc.1, hc.2.1]
      try rfl) (by kernel_rfl) (by kernel_rfl) (anownS_1_17 hc)
theorem anownS_1_23 {z : zownS_1} (hc : cownS_1_0 z) : aownS_1_0 z 5 991 (qownS_1_0 z 991 [(9, .sl 5 0 0)]) (HownS_1_0 z [3, 3]) := by
  refine any_next [5, 10] (by kernel_rfl) (by decide) fun i hi => ?_
  rcases two2 hi with rfl | rfl
  · exact any_one _ (v := .sl 6 0 (0 + (yownS_11 z))) tabok_ownS hoownS_1_5 (trivial) (by
      refine Eq.trans (b := (match decide (0 + (yownS_11 z) * 1 ≤ (yownS_14 z).length) with | true => (match apok true 0 1 0 1 (0 + (yownS_11 z)) 4 with | true => some ((.sl 6 0 (0 + (yownS_11 z))), [.at (yownS_10 z) (.as 1 [.sl 1 0 (yownS_11 z), .sl 2 0 (yownS_12 z)]), .at (yownS_13 z) (.fl .f32 (yownS_14 z)), .at (yownS_15 z) (.fl .f32 (yownS_16 z)), .at true (.as 1 [.nil, .nil]), .gone, .at true (.fl .f32 ([] : List Nat)), .at true (.fl .f32 (([] : List Nat) ++ (((yownS_14 z).drop 0).take ((yownS_11 z) * 1))))]) | false => none) | false => none)) (by kernel_rfl) ?_
      rw [hc.1, hc.2.1]
      try rfl) (by kernel_rfl) (by kernel_rfl) (anownS_1_18 hc)
  · exact any_one _ (v := vownS_1_0 z 10) tabok_ownS hoownS_1_10 (trivial) (by kernel_rfl) (by kernel_rfl) (by kernel_rfl) (anownS_1_22 hc)
theorem anownS_1_24 {z : zownS_1} (hc : cownS_1_0 z) : aownS_1_0 z 6 479 (qownS_1_0 z 479 [(9, .sl 5 0 0)]) (HownS_1_0 z [3, 3]) := by
  refine any_next [5, 9] (by kernel_rfl) (by decide) fun i hi => ?_
  rcases two2 hi with rfl | rfl
  · exact any_one _ (v := .sl 6 0 (0 + (yownS_11 z))) tabok_ownS hoownS_1_5 (trivial) (by
      refine Eq.trans (b := (match decide (0 + (yownS_11 z) * 1 ≤ (yownS_14 z).length) with | true => (match apok true 0 1 0 1 (0 + (yownS_11 z)) 4 with | true => some ((.sl 6 0 (0 + (yownS_11 z))), [.at (yownS_10 z) (.as 1 [.sl 1 0 (yownS_11 z), .sl 2 0 (yownS_12 z)]), .at (yownS_13 z) (.fl .f32 (yownS_14 z)), .at (yownS_15 z) (.fl .f32 (yownS_16 z)), .at true (.as 1 [.nil, .nil]), .gone, .at true (.fl .f32 ([] : List Nat)), .at true (.fl .f32 (([] : List Nat) ++ (((yownS_14 z).drop 0).take ((yownS_11 z) * 1))))]) | false => none) | false => none)) (by kernel_rfl) ?_
      rw [hc.1, hc.2.1]
      try rfl) (by kernel_rfl) (by kernel_rfl) (anownS_1_19 hc)
  · exact any_one _ (v := vownS_1_0 z 9) tabok_ownS hoownS_1_9 (trivial) (by kernel_rfl) (by kernel_rfl) (by kernel_rfl) (anownS_1_23 hc)
theorem anownS_1_25 {z : zownS_1} (hc : cownS_1_0 z) : aownS_1_0 z 7 223 (qownS_1_0 z 223 [(9, .sl 5 0 0)]) (HownS_1_0 z [3, 3]) := by
  refine any_next [5, 8] (by kernel_rfl) (by decide) fun i hi => ?_
  rcases two2 hi with rfl | rfl
  · exact any_one _ (v := .sl 6 0 (0 + (yownS_11 z))) tabok_ownS hoownS_1_5 (trivial) (by
      refine Eq.trans (b := (match decide (0 + (yownS_11 z) * 1 ≤ (yownS_14 z).length) with | true => (match apok true 0 1 0 1 (0 + (yownS_11 z)) 4 with | true => some ((.sl 6 0 (0 + (yownS_11 z))), [.at (yownS_10 z) (.as 1 [.sl 1 0 (yownS_11 z), .sl 2 0 (yownS_12 z)]), .at (yownS_13 z) (.fl .f32 (yownS_14 z)), .at (yownS_15 z) (.fl .f32 (yownS_16 z)), .at true (.as 1 [.nil, .nil]), .gone, .at true (.fl .f32 ([] : List Nat)), .at true (.fl .f32 (([] : List Nat) ++ (((yownS_14 z).drop 0).take ((yownS_11 z) * 1))))]) | false => none) | false => none)) (by kernel_rfl) ?_
      rw [hc.1, hc.2.1]
      try rfl) (by kernel_rfl) (by kernel_rfl) (anownS_1_20 hc)
  · exact any_one _ (v := vownS_1_0 z 8) tabok_ownS hoownS_1_8 (trivial) (by kernel_rfl) (by kernel_rfl) (by kernel_rfl) (anownS_1_24 hc)
theorem anownS_1_26 {z : zownS_1} (hc : cownS_1_0 z) : aownS_1_0 z 8 95 (qownS_1_0 z 95 [(9, .sl 5 0 0)]) (HownS_1_0 z [3, 3]) := by
  refine any_next [5, 7] (by kernel_rfl) (by decide) fun i hi => ?_
  rcases two2 hi with rfl | rfl
  · exact any_one _ (v := .sl 6 0 (0 + (yownS_11 z))) tabok_ownS hoownS_1_5 (trivial) (by
      refine Eq.trans (b := (match decide (0 + (yownS_11 z) * 1 ≤ (yownS_14 z).length) with | true => (match apok true 0 1 0 1 (0 + (yownS_11 z)) 4 with | true => some ((.sl 6 0 (0 + (yownS_11 z))), [.at (yownS_10 z) (.as 1 [.sl 1 0 (yownS_11 z), .sl 2 0 (yownS_12 z)]), .at (yownS_13 z) (.fl .f32 (yownS_14 z)), .at (yownS_15 z) (.fl .f32 (yownS_16 z)), .at true (.as 1 [.nil, .nil]), .gone, .at true (.fl .f32 ([] : List Nat)), .at true (.fl .f32 (([] : List Nat) ++ (((yownS_14 z).drop 0).take ((yownS_11 z) * 1))))]) | false => none) | false => none)) (by kernel_rfl) ?_
      rw [hc.1, hc.2.1]
      try rfl) (by kernel_rfl) (by kernel_rfl) (anownS_1_21 hc)
  · exact any_one _ (v := vownS_1_0 z 7) tabok_ownS hoownS_1_7 (trivial) (by kernel_rfl) (by kernel_rfl) (by kernel_rfl) (anownS_1_25 hc)
theorem anownS_1_27 {z : zownS_1} (hc : cownS_1_0 z) : aownS_1_0 z 5 1951 (qownS_1_0 z 1951 []) (HownS_1_0 z [3]) := by
  refine any_next [5, 6] (by kernel_rfl) (by decide) fun i hi => ?_
  rcases two2 hi with rfl | rfl
  · exact any_one _ (v := vownS_1_0 z 5) tabok_ownS hoownS_1_5 (trivial) (by
      refine Eq.trans (b := (match decide (0 + (yownS_11 z) * 1 ≤ (yownS_14 z).length) with | true => (match apok true 0 1 0 1 (0 + (yownS_11 z)) 4 with | true => some ((.sl 5 0 (0 + (yownS_11 z))), [.at (yownS_10 z) (.as 1 [.sl 1 0 (yownS_11 z), .sl 2 0 (yownS_12 z)]), .at (yownS_13 z) (.fl .f32 (yownS_14 z)), .at (yownS_15 z) (.fl .f32 (yownS_16 z)), .at true (.as 1 [.nil, .nil]), .gone, .at true (.fl .f32 (([] : List Nat) ++ (((yownS_14 z).drop 0).take ((yownS_11 z) * 1))))]) | false => none) | false => none)) (by kernel_rfl) ?_
      rw [hc.1, hc.2.1]
      try rfl) (by kernel_rfl) (by kernel_rfl) (anownS_1_9 hc)
  · exact any_one _ (v := .sl 5 0 0) tabok_ownS hoownS_1_6 (trivial) (by kernel_rfl) (by kernel_rfl) (by kernel_rfl) (anownS_1_22 hc)
theorem anownS_1_28 {z : zownS_1} (hc : cownS_1_0 z) : aownS_1_0 z 6 927 (qownS_1_0 z 927 []) (HownS_1_0 z [3]) := by
  refine any_next [5, 6, 10] (by kernel_rfl) (by decide) fun i hi => ?_
  rcases two3 hi with rfl | rfl | rfl
  · exact any_one _ (v := vownS_1_0 z 5) tabok_ownS hoownS_1_5 (trivial) (by
      refine Eq.trans (b := (match decide (0 + (yownS_11 z) * 1 ≤ (yownS_14 z).length) with | true => (match apok true 0 1 0 1 (0 + (yownS_11 z)) 4 with | true => some ((.sl 5 0 (0 + (yownS_11 z))), [.at (yownS_10 z) (.as 1 [.sl 1 0 (yownS_11 z), .sl 2 0 (yownS_12 z)]), .at (yownS_13 z) (.fl .f32 (yownS_14 z)), .at (yownS_15 z) (.fl .f32 (yownS_16 z)), .at true (.as 1 [.nil, .nil]), .gone, .at true (.fl .f32 (([] : List Nat) ++ (((yownS_14 z).drop 0).take ((yownS_11 z) * 1))))]) | false => none) | false => none)) (by kernel_rfl) ?_
      rw [hc.1, hc.2.1]
      try rfl) (by kernel_rfl) (by kernel_rfl) (anownS_1_10 hc)
  · exact any_one _ (v := .sl 5 0 0) tabok_ownS hoownS_1_6 (trivial) (by kernel_rfl) (by kernel_rfl) (by kernel_rfl) (anownS_1_23 hc)
  · exact any_one _ (v := vownS_1_0 z 10) tabok_ownS hoownS_1_10 (trivial) (by kernel_rfl) (by kernel_rfl) (by kernel_rfl) (anownS_1_27 hc)
theorem anownS_1_29 {z : zownS_1} (hc : cownS_1_0 z) : aownS_1_0 z 7 415 (qownS_1_0 z 415 []) (HownS_1_0 z [3]) := by
  refine any_next [5, 6, 9] (by kernel_rfl) (by decide) fun i hi => ?_
  rcases two3 hi with rfl | rfl | rfl
  · exact any_one _ (v := vownS_1_0 z 5) tabok_ownS hoownS_1_5 (trivial) (by
      refine Eq.trans (b := (match decide (0 + (yownS_11 z) * 1 ≤ (yownS_14 z).length) with | true => (match apok true 0 1 0 1 (0 + (yownS_11 z)) 4 with | true => some ((.sl 5 0 (0 + (yownS_11 z))), [.at (yownS_10 z) (.as 1 [.sl 1 0 (yownS_11 z), .sl 2 0 (yownS_12 z)]), .at (yownS_13 z) (.fl .f32 (yownS_14 z)), .at (yownS_15 z) (.fl .f32 (yownS_16 z)), .at true (.as 1 [.nil, .nil]), .gone, .at true (.fl .f32 (([] : List Nat) ++ (((yownS_14 z).drop 0).take ((yownS_11 z) * 1))))]) | false => none) | false => none)) (by kernel_rfl) ?_
      rw [hc.1, hc.2.1]
      try rfl) (by kernel_rfl) (by kernel_rfl) (anownS_1_11 hc)
  · exact any_one _ (v := .sl 5 0 0) tabok_ownS hoownS_1_6 (trivial) (by kernel_rfl) (by kernel_rfl) (by kernel_rfl) (anownS_1_24 hc)
  · exact any_one _ (v := vownS_1_0 z 9) tabok_ownS hoownS_1_9 (trivial) (by kernel_rfl) (by kernel_rfl) (by kernel_rfl) (anownS_1_28 hc)
theorem anownS_1_30 {z : zownS_1} (hc : cownS_1_0 z) : aownS_1_0 z 8 159 (qownS_1_0 z 159 []) (HownS_1_0 z [3]) := by
  refine any_next [5, 6, 8] (by kernel_rfl) (by decide) fun i hi => ?_
  rcases two3 hi with rfl | rfl | rfl
  · exact any_one _ (v := vownS_1_0 z 5) tabok_ownS hoownS_1_5 (trivial) (by
      refine Eq.trans (b := (match decide (0 + (yownS_11 z) * 1 ≤ (yownS_14 z).length) with | true => (match apok true 0 1 0 1 (0 + (yownS_11 z)) 4 with | true => some ((.sl 5 0 (0 + (yownS_11 z))), [.at (yownS_10 z) (.as 1 [.sl 1 0 (yownS_11 z), .sl 2 0 (yownS_12 z)]), .at (yownS_13 z) (.fl .f32 (yownS_14 z)), .at (yownS_15 z) (.fl .f32 (yownS_16 z)), .at true (.as 1 [.nil, .nil]), .gone, .at true (.fl .f32 (([] : List Nat) ++ (((yownS_14 z).drop 0).take ((yownS_11 z) * 1))))]) | false => none) | false => none)) (by kernel_rfl) ?_
      rw [hc.1, hc.2.1]
      try rfl) (by kernel_rfl) (by kernel_rfl) (anownS_1_12 hc)
  · exact any_one _ (v := .sl 5 0 0) tabok_ownS hoownS_1_6 (trivial) (by kernel_rfl) (by kernel_rfl) (by kernel_rfl) (anownS_1_25 hc)
  · exact any_one _ (v := vownS_1_0 z 8) tabok_ownS hoownS_1_8 (trivial) (by kernel_rfl) (by kernel_rfl) (by kernel_rfl) (anownS_1_29 hc)
theorem anownS_1_31 {z : zownS_1} (hc : cownS_1_0 z) : aownS_1_0 z 9 31 (qownS_1_0 z 31 []) (HownS_1_0 z [3]) := by
  refine any_next [5, 6, 7] (by kernel_rfl) (by decide) fun i hi => ?_
  rcases two3 hi with rfl | rfl | rfl
  · exact any_one _ (v := vownS_1_0 z 5) tabok_ownS hoownS_1_5 (trivial) (by
      refine Eq.trans (b := (match decide (0 + (yownS_11 z) * 1 ≤ (yownS_14 z).length) with | true => (match apok true 0 1 0 1 (0 + (yownS_11 z)) 4 with | true => some ((.sl 5 0 (0 + (yownS_11 z))), [.at (yownS_10 z) (.as 1 [.sl 1 0 (yownS_11 z), .sl 2 0 (yownS_12 z)]), .at (yownS_13 z) (.fl .f32 (yownS_14 z)), .at (yownS_15 z) (.fl .f32 (yownS_16 z)), .at true (.as 1 [.nil, .nil]), .gone, .at true (.fl .f32 (([] : List Nat) ++ (((yownS_14 z).drop 0).take ((yownS_11 z) * 1))))]) | false => none) | false => none)) (by kernel_rfl) ?_
      rw [hc.1, hc.2.1]
      try rfl) (by kernel_rfl) (by kernel_rfl) (anownS_1_13 hc)
  · exact any_one _ (v := .sl 5 0 0) tabok_ownS hoownS_1_6 (trivial) (by kernel_rfl) (by kernel_rfl) (by kernel_rfl) (anownS_1_26 hc)
  · exact any_one _ (v := vownS_1_0 z 7) tabok_ownS hoownS_1_7 (trivial) (by kernel_rfl) (by kernel_rfl) (by kernel_rfl) (anownS_1_30 hc)
theorem anownS_1_32 {z : zownS_1} (hc : cownS_1_0 z) : aownS_1_0 z 5 1999 (qownS_1_0 z 1999 [(9, .sl 5 0 0)]) (HownS_1_0 z [3, 3]) := by
  refine any_next [4] (by kernel_rfl) (by decide) fun i hi => ?_
  obtain rfl := two1 hi
  · exact any_one _ (v := vownS_1_0 z 4) tabok_ownS hoownS_1_4 (trivial) (by kernel_rfl) (by kernel_rfl) (by kernel_rfl) (anownS_1_22 hc)
theorem anownS_1_33 {z : zownS_1} (hc : cownS_1_0 z) : aownS_1_0 z 6 975 (qownS_1_0 z 975 [(9, .sl 5 0 0)]) (HownS_1_0 z [3, 3]) := by
  refine any_next [4, 10] (by kernel_rfl) (by decide) fun i hi => ?_
  rcases two2 hi with rfl | rfl
  · exact any_one _ (v := vownS_1_0 z 4) tabok_ownS hoownS_1_4 (trivial) (by kernel_rfl) (by kernel_rfl) (by kernel_rfl) (anownS_1_23 hc)
  · exact any_one _ (v := vownS_1_0 z 10) tabok_ownS hoownS_1_10 (trivial) (by kernel_rfl) (by kernel_rfl) (by kernel_rfl) (anownS_1_32 hc)
theorem anownS_1_34 {z : zownS_1} (hc : cownS_1_0 z) : aownS_1_0 z 7 463 (qownS_1_0 z 463 [(9, .sl 5 0 0)]) (HownS_1_0 z [3, 3]) := by
  refine any_next [4, 9] (by kernel_rfl) (by decide) fun i hi => ?_
  rcases two2 hi with rfl | rfl
  · exact any_one _ (v := vownS_1_0 z 4) tabok_ownS hoownS_1_4 (trivial) (by kernel_rfl) (by kernel_rfl) (by kernel_rfl) (anownS_1_24 hc)
  · exact any_one _ (v := vownS_1_0 z 9) tabok_ownS hoownS_1_9 (trivial) (by kernel_rfl) (by kernel_rfl) (by kernel_rfl) (anownS_1_33 hc)
theorem anownS_1_35 {z : zownS_1} (hc : cownS_1_0 z) : aownS_1_0 z 8 207 (qownS_1_0 z 207 [(9, .sl 5 0 0)]) (HownS_1_0 z [3, 3]) := by
  refine any_next [4, 8] (by kernel_rfl) (by decide) fun i hi => ?_
  rcases two2 hi with rfl | rfl
  · exact any_one _ (v := vownS_1_0 z 4) tabok_ownS hoownS_1_4 (trivial) (by kernel_rfl) (by kernel_rfl) (by kernel_rfl) (anownS_1_25 hc)
  · exact any_one _ (v := vownS_1_0 z 8) tabok_ownS hoownS_1_8 (trivial) (by kernel_rfl) (by kernel_rfl) (by kernel_rfl) (anownS_1_34 hc)
theorem anownS_1_36 {z : zownS_1} (hc : cownS_1_0 z) : aownS_1_0 z 9 79 (qownS_1_0 z 79 [(9, .sl 5 0 0)]) (HownS_1_0 z [3, 3]) := by
  refine any_next [4, 7] (by kernel_rfl) (by decide) fun i hi => ?_
  rcases two2 hi with rfl | rfl
  · exact any_one _ (v := vownS_1_0 z 4) tabok_ownS hoownS_1_4 (trivial) (by kernel_rfl) (by kernel_rfl) (by kernel_rfl) (anownS_1_26 hc)
  · exact any_one _ (v := vownS_1_0 z 7) tabok_ownS hoownS_1_7 (trivial) (by kernel_rfl) (by kernel_rfl) (by kernel_rfl) (anownS_1_35 hc)
theorem anownS_1_37 {z : zownS_1} (hc : cownS_1_0 z) : aownS_1_0 z 6 1935 (qownS_1_0 z 1935 []) (HownS_1_0 z [3]) := by
  refine any_next [4, 6] (by kernel_rfl) (by decide) fun i hi => ?_
  rcases two2 hi with rfl | rfl
  · exact any_one _ (v := vownS_1_0 z 4) tabok_ownS hoownS_1_4 (trivial) (by kernel_rfl) (by kernel_rfl) (by kernel_rfl) (anownS_1_27 hc)
  · exact any_one _ (v := .sl 5 0 0) tabok_ownS hoownS_1_6 (trivial) (by kernel_rfl) (by kernel_rfl) (by kernel_rfl) (anownS_1_32 hc)
theorem anownS_1_38 {z : zownS_1} (hc : cownS_1_0 z) : aownS_1_0 z 7 911 (qownS_1_0 z 911 []) (HownS_1_0 z [3]) := by
  refine any_next [4, 6, 10] (by kernel_rfl) (by decide) fun i hi => ?_
  rcases two3 hi with rfl | rfl | rfl
  · exact any_one _ (v := vownS_1_0 z 4) tabok_ownS hoownS_1_4 (trivial) (by kernel_rfl) (by kernel_rfl) (by kernel_rfl) (anownS_1_28 hc)
  · exact any_one _ (v := .sl 5 0 0) tabok_ownS hoownS_1_6 (trivial) (by kernel_rfl) (by kernel_rfl) (by kernel_rfl) (anownS_1_33 hc)
  · exact any_one _ (v := vownS_1_0 z 10) tabok_ownS hoownS_1_10 (trivial) (by kernel_rfl) (by kernel_rfl) (by kernel_rfl) (anownS_1_37 hc)
theorem anownS_1_39 {z : zownS_1} (hc : cownS_1_0 z) : aownS_1_0 z 8 399 (qownS_1_0 z 399 []) (HownS_1_0 z [3]) := by
  refine any_next [4, 6, 9] (by kernel_rfl) (by decide) fun i hi => ?_
  rcases two3 hi with rfl | rfl | rfl
  · exact any_one _ (v := vownS_1_0 z 4) tabok_ownS hoownS_1_4 (trivial) (by kernel_rfl) (by kernel_rfl) (by kernel_rfl) (anownS_1_29 hc)
  · exact any_one _ (v := .sl 5 0 0) tabok_ownS hoownS_1_6 (trivial) (by kernel_rfl) (by kernel_rfl) (by kernel_rfl) (anownS_1_34 hc)
  · exact any_one _ (v := vownS_1_0 z 9) tabok_ownS hoownS_1_9 (trivial) (by kernel_rfl) (by kernel_rfl) (by kernel_rfl) (anownS_1_38 hc)
theorem anownS_1_40 {z : zownS_1} (hc : cownS_1_0 z) : aownS_1_0 z 9 143 (qownS_1_0 z 143 []) (HownS_1_0 z [3]) := by
  refine any_next [4, 6, 8] (by kernel_rfl) (by decide) fun i hi => ?_
  rcases two3 hi with rfl | rfl | rfl
  · exact any_one _ (v := vownS_1_0 z 4) tabok_ownS hoownS_1_4 (trivial) (by kernel_rfl) (by kernel_rfl) (by kernel_rfl) (anownS_1_30 hc)
  · exact any_one _ (v := .sl 5 0 0) tabok_ownS hoownS_1_6 (trivial) (by kernel_rfl) (by kernel_rfl) (by kernel_rfl) (anownS_1_35 hc)
  · exact any_one _ (v := vownS_1_0 z 8) tabok_ownS hoownS_1_8 (trivial) (by kernel_rfl) (by kernel_rfl) (by kernel_rfl) (anownS_1_39 hc)
theorem anownS_1_41 {z : zownS_1} (hc : cownS_1_0 z) : aownS_1_0 z 10 15 (qownS_1_0 z 15 []) (HownS_1_0 z [3]) := by
  refine any_next [4, 6, 7] (by kernel_rfl) (by decide) fun i hi => ?_
  rcases two3 hi with rfl | rfl | rfl
  · exact any_one _ (v := vownS_1_0 z 4) tabok_ownS hoownS_1_4 (trivial) (by kernel_rfl) (by kernel_rfl) (by kernel_rfl) (anownS_1_31 hc)
  · exact any_one _ (v := .sl 5 0 0) tabok_ownS hoownS_1_6 (trivial) (by kernel_rfl) (by kernel_rfl) (by kernel_rfl) (anownS_1_36 hc)
  · exact any_one _ (v := vownS_1_0 z 7) tabok_ownS hoownS_1_7 (trivial) (by kernel_rfl) (by kernel_rfl) (by kernel_rfl) (anownS_1_40 hc)
theorem anownS_1_42 {z : zownS_1} (hc : cownS_1_0 z) : aownS_1_0 z 6 1991 (qownS_1_0 z 1991 [(9, .sl 5 0 0)]) (HownS_1_0 z [3, 3]) := by
  refine any_next [3] (by kernel_rfl) (by decide) fun i hi => ?_
  obtain rfl := two1 hi
  · exact any_one _ (v := vownS_1_0 z 3) tabok_ownS hoownS_1_3 (trivial) (by kernel_rfl) (by kernel_rfl) (by kernel_rfl) (anownS_1_32 hc)
theorem anownS_1_43 {z : zownS_1} (hc : cownS_1_0 z) : aownS_1_0 z 7 967 (qownS_1_0 z 967 [(9, .sl 5 0 0)]) (HownS_1_0 z [3, 3]) := by
  refine any_next [3, 10] (by kernel_rfl) (by decide) fun i hi => ?_
  rcases two2 hi with rfl | rfl
  · exact any_one _ (v := vownS_1_0 z 3) tabok_ownS hoownS_1_3 (trivial) (by kernel_rfl) (by kernel_rfl) (by kernel_rfl) (anownS_1_33 hc)
  · exact any_one _ (v := vownS_1_0 z 10) tabok_ownS hoownS_1_10 (trivial) (by kernel_rfl) (by kernel_rfl) (by kernel_rfl) (anownS_1_42 hc)
theorem anownS_1_44 {z : zownS_1} (hc : cownS_1_0 z) : aownS_1_0 z 8 455 (qownS_1_0 z 455 [(9, .sl 5 0 0)]) (HownS_1_0 z [3, 3]) := by
  refine any_next [3, 9] (by kernel_rfl) (by decide) fun i hi => ?_
  rcases two2 hi with rfl | rfl
  · exact any_one _ (v := vownS_1_0 z 3) tabok_ownS hoownS_1_3 (trivial) (by kernel_rfl) (by kernel_rfl) (by kernel_rfl) (anownS_1_34 hc)
  · exact any_one _ (v := vownS_1_0 z 9) tabok_ownS hoownS_1_9 (trivial) (by kernel_rfl) (by kernel_rfl) (by kernel_rfl) (anownS_1_43 hc)
theorem anownS_1_45 {z : zownS_1} (hc : cownS_1_0 z) : aownS_1_0 z 9 199 (qownS_1_0 z 199 [(9, .sl 5 0 0)]) (HownS_1_0 z [3, 3]) := by
  refine any_next [3, 8] (by kernel_rfl) (by decide) fun i hi => ?_
  rcases two2 hi with rfl | rfl
  · exact any_one _ (v := vownS_1_0 z 3) tabok_ownS hoownS_1_3 (trivial) (by kernel_rfl) (by kernel_rfl) (by kernel_rfl) (anownS_1_35 hc)
  · exact any_one _ (v := vownS_1_0 z 8) tabok_ownS hoownS_1_8 (trivial) (by kernel_rfl) (by kernel_rfl) (by kernel_rfl) (anownS_1_44 hc)
theorem anownS_1_46 {z : zownS_1} (hc : cownS_1_0 z) : aownS_1_0 z 10 71 (qownS_1_0 z 71 [(9, .sl 5 0 0)]) (HownS_1_0 z [3, 3]) := by
  refine any_next [3, 7] (by kernel_rfl) (by decide) fun i hi => ?_
  rcases two2 hi with rfl | rfl
  · exact any_one _ (v := vownS_1_0 z 3) tabok_ownS hoownS_1_3 (trivial) (by kernel_rfl) (by kernel_rfl) (by kernel_rfl) (anownS_1_36 hc)
  · exact any_one _ (v := vownS_1_0 z 7) tabok_ownS hoownS_1_7 (trivial) (by kernel_rfl) (by kernel_rfl) (by kernel_rfl) (anownS_1_45 hc)
theorem anownS_1_47 {z : zownS_1} (hc : cownS_1_0 z) : aownS_1_0 z 7 1927 (qownS_1_0 z 1927 []) (HownS_1_0 z [3]) := by
  refine any_next [3, 6] (by kernel_rfl) (by decide) fun i hi => ?_
  rcases two2 hi with rfl | rfl
  · exact any_one _ (v := vownS_1_0 z 3) tabok_ownS hoownS_1_3 (trivial) (by kernel_rfl) (by kernel_rfl) (by kernel_rfl) (anownS_1_37 hc)
  · exact any_one _ (v := .sl 5 0 0) tabok_ownS hoownS_1_6 (trivial) (by kernel_rfl) (by kernel_rfl) (by kernel_rfl) (anownS_1_42 hc)
theorem anownS_1_48 {z : zownS_1} (hc : cownS_1_0 z) : aownS_1_0 z 8 903 (qownS_1_0 z 903 []) (HownS_1_0 z [3]) := by
  refine any_next [3, 6, 10] (by kernel_rfl) (by decide) fun i hi => ?_
  rcases two3 hi with rfl | rfl | rfl
  · exact any_one _ (v := vownS_1_0 z 3) tabok_ownS hoownS_1_3 (trivial) (by kernel_rfl) (by kernel_rfl) (by kernel_rfl) (anownS_1_38 hc)
  · exact any_one _ (v := .sl 5 0 0) tabok_ownS hoownS_1_6 (trivial) (by kernel_rfl) (by kernel_rfl) (by kernel_rfl) (anownS_1_43 hc)
  · exact any_one _ (v := vownS_1_0 z 10) tabok_ownS hoownS_1_10 (trivial) (by kernel_rfl) (by kernel_rfl) (by kernel_rfl) (anownS_1_47 hc)
theorem anownS_1_49 {z : zownS_1} (hc : cownS_1_0 z) : aownS_1_0 z 9 391 (qownS_1_0 z 391 []) (HownS_1_0 z [3]) := by
  refine any_next [3, 6, 9] (by kernel_rfl) (by decide) fun i hi => ?_
  rcases two3 hi with rfl | rfl | rfl
  · exact any_one _ (v := vownS_1_0 z 3) tabok_ownS hoownS_1_3 (trivial) (by kernel_rfl) (by kernel_rfl) (by kernel_rfl) (anownS_1_39 hc)
  · exact any_one _ (v := .sl 5 0 0) tabok_ownS hoownS_1_6 (trivial) (by kernel_rfl) (by kernel_rfl) (by kernel_rfl) (anownS_1_44 hc)
  · exact any_one _ (v := vownS_1_0 z 9) tabok_ownS hoownS_1_9 (trivial) (by kernel_rfl) (by kernel_rfl) (by kernel_rfl) (anownS_1_48 hc)
theorem anownS_1_50 {z : zownS_1} (hc : cownS_1_0 z) : aownS_1_0 z 10 135 (qownS_1_0 z 135 []) (HownS_1_0 z [3]) := by
  refine any_next [3, 6, 8] (by kernel_rfl) (by decide) fun i hi => ?_
  rcases two3 hi with rfl | rfl | rfl
  · exact any_one _ (v := vownS_1_0 z 3) tabok_ownS hoownS_1_3 (trivial) (by kernel_rfl) (by kernel_rfl) (by kernel_rfl) (anownS_1_40 hc)
  · exact any_one _ (v := .sl 5 0 0) tabok_ownS hoownS_1_6 (trivial) (by kernel_rfl) (by kernel_rfl) (by kernel_rfl) (anownS_1_45 hc)
  · exact any_one _ (v := vownS_1_0 z 8) tabok_ownS hoownS_1_8 (trivial) (by kernel_rfl) (by kernel_rfl) (by kernel_rfl) (anownS_1_49 hc)
theorem anownS_1_51 {z : zownS_1} (hc : cownS_1_0 z) : aownS_1_0 z 11 7 (qownS_1_0 z 7 []) (HownS_1_0 z [3]) := by
  refine any_next [3, 6, 7] (by kernel_rfl) (by decide) fun i hi => ?_
  rcases two3 hi with rfl | rfl | rfl
  · exact any_one _ (v := vownS_1_0 z 3) tabok_ownS hoownS_1_3 (trivial) (by kernel_rfl) (by kernel_rfl) (by kernel_rfl) (anownS_1_41 hc)
  · exact any_one _ (v := .sl 5 0 0) tabok_ownS hoownS_1_6 (trivial) (by kernel_rfl) (by kernel_rfl) (by kernel_rfl) (anownS_1_46 hc)
  · exact any_one _ (v := vownS_1_0 z 7) tabok_ownS hoownS_1_7 (trivial) (by kernel_rfl) (by kernel_rfl) (by kernel_rfl) (anownS_1_50 hc)
theorem anownS_1_52 {z : zownS_1} (hc : cownS_1_0 z) : aownS_1_0 z 7 1987 (qownS_1_0 z 1987 [(9, .sl 5 0 0)]) (HownS_1_0 z [3, 3]) := by
  refine any_next [2] (by kernel_rfl) (by decide) fun i hi => ?_
  obtain rfl := two1 hi
  · exact any_one _ (v := vownS_1_0 z 2) tabok_ownS hoownS_1_2 (trivial) (by kernel_rfl) (by kernel_rfl) (by kernel_rfl) (anownS_1_42 hc)
theorem anownS_1_53 {z : zownS_1} (hc : cownS_1_0 z) : aownS_1_0 z 8 963 (qownS_1_0 z 963 [(9, .sl 5 0 0)]) (HownS_1_0 z [3, 3]) := by
  refine any_next [2, 10] (by kernel_rfl) (by decide) fun i hi => ?_
  rcases two2 hi with rfl | rfl
  · exact any_one _ (v := vownS_1_0 z 2) tabok_ownS hoownS_1_2 (trivial) (by kernel_rfl) (by kernel_rfl) (by kernel_rfl) (anownS_1_43 hc)
  · exact any_one _ (v := vownS_1_0 z 10) tabok_ownS hoownS_1_10 (trivial) (by kernel_rfl) (by kernel_rfl) (by kernel_rfl) (anownS_1_52 hc)
theorem anownS_1_54 {z : zownS_1} (hc : cownS_1_0 z) : aownS_1_0 z 9 451 (qownS_1_0 z 451 [(9, .sl 5 0 0)]) (HownS_1_0 z [3, 3]) := by
  refine any_next [2, 9] (by kernel_rfl) (by decide) fun i hi => ?_
  rcases two2 hi with rfl | rfl
  · exact any_one _ (v := vownS_1_0 z 2) tabok_ownS hoownS_1_2 (trivial) (by kernel_rfl) (by kernel_rfl) (by kernel_rfl) (anownS_1_44 hc)
  · exact any_one _ (v := vownS_1_0 z 9) tabok_ownS hoownS_1_9 (trivial) (by kernel_rfl) (by kernel_rfl) (by kernel_rfl) (anownS_1_53 hc)
theorem anownS_1_55 {z : zownS_1} (hc : cownS_1_0 z) : aownS_1_0 z 10 195 (qownS_1_0 z 195 [(9, .sl 5 0 0)]) (HownS_1_0 z [3, 3]) := by
  refine any_next [2, 8] (by kernel_rfl) (by decide) fun i hi => ?_
  rcases two2 hi with rfl | rfl
  · exact any_one _ (v := vownS_1_0 z 2) tabok_ownS hoownS_1_2 (trivial) (by kernel_rfl) (by kernel_rfl) (by kernel_rfl) (anownS_1_45 hc)
  · exact any_one _ (v := vownS_1_0 z 8) tabok_ownS hoownS_1_8 (trivial) (by kernel_rfl) (by kernel_rfl) (by kernel_rfl) (anownS_1_54 hc)
theorem anownS_1_56 {z : zownS_1} (hc : cownS_1_0 z) : aownS_1_0 z 11 67 (qownS_1_0 z 67 [(9, .sl 5 0 0)]) (HownS_1_0 z [3, 3]) := by
  refine any_next [2, 7] (by kernel_rfl) (by decide) fun i hi => ?_
  rcases two2 hi with rfl | rfl
  · exact any_one _ (v := vownS_1_0 z 2) tabok_ownS hoownS_1_2 (trivial) (by kernel_rfl) (by kernel_rfl) (by kernel_rfl) (anownS_1_46 hc)
  · exact any_one _ (v := vownS_1_0 z 7) tabok_ownS hoownS_1_7 (trivial) (by kernel_rfl) (by kernel_rfl) (by kernel_rfl) (anownS_1_55 hc)
theorem anownS_1_57 {z : zownS_1} (hc : cownS_1_0 z) : aownS_1_0 z 8 1923 (qownS_1_0 z 1923 []) (HownS_1_0 z [3]) := by
  refine any_next [2, 6] (by kernel_rfl) (by decide) fun i hi => ?_
  rcases two2 hi with rfl | rfl
  · exact any_one _ (v := vownS_1_0 z 2) tabok_ownS hoownS_1_2 (trivial) (by kernel_rfl) (by kernel_rfl) (by kernel_rfl) (anownS_1_47 hc)
  · exact any_one _ (v := .sl 5 0 0) tabok_ownS hoownS_1_6 (trivial) (by kernel_rfl) (by kernel_rfl) (by kernel_rfl) (anownS_1_52 hc)
theorem anownS_1_58 {z : zownS_1} (hc : cownS_1_0 z) : aownS_1_0 z 9 899 (qownS_1_0 z 899 []) (HownS_1_0 z [3]) := by
  refine any_next [2, 6, 10] (by kernel_rfl) (by decide) fun i hi => ?_
  rcases two3 hi with rfl | rfl | rfl
  · exact any_one _ (v := vownS_1_0 z 2) tabok_ownS hoownS_1_2 (trivial) (by kernel_rfl) (by kernel_rfl) (by kernel_rfl) (anownS_1_48 hc)
  · exact any_one _ (v := .sl 5 0 0) tabok_ownS hoownS_1_6 (trivial) (by kernel_rfl) (by kernel_rfl) (by kernel_rfl) (anownS_1_53 hc)
  · exact any_one _ (v := vownS_1_0 z 10) tabok_ownS hoownS_1_10 (trivial) (by kernel_rfl) (by kernel_rfl) (by kernel_rfl) (anownS_1_57 hc)
theorem anownS_1_59 {z : zownS_1} (hc : cownS_1_0 z) : aownS_1_0 z 10 387 (qownS_1_0 z 387 []) (HownS_1_0 z [3]) := by
  refine any_next [2, 6, 9] (by kernel_rfl) (by decide) fun i hi => ?_
  rcases two3 hi with rfl | rfl | rfl
  · exact any_one _ (v := vownS_1_0 z 2) tabok_ownS hoownS_1_2 (trivial) (by kernel_rfl) (by kernel_rfl) (by kernel_rfl) (anownS_1_49 hc)
  · exact any_one _ (v := .sl 5 0 0) tabok_ownS hoownS_1_6 (trivial) (by kernel_rfl) (by kernel_rfl) (by kernel_rfl) (anownS_1_54 hc)
  · exact any_one _ (v := vownS_1_0 z 9) tabok_ownS hoownS_1_9 (trivial) (by kernel_rfl) (by kernel_rfl) (by kernel_rfl) (anownS_1_58 hc)
theorem anownS_1_60 {z : zownS_1} (hc : cownS_1_0 z) : aownS_1_0 z 11 131 (qownS_1_0 z 131 []) (HownS_1_0 z [3]) := by
  refine any_next [2, 6, 8] (by kernel_rfl) (by decide) fun i hi => ?_
  rcases two3 hi with rfl | rfl | rfl
  · exact any_one _ (v := vownS_1_0 z 2) tabok_ownS hoownS_1_2 (trivial) (by kernel_rfl) (by kernel_rfl) (by kernel_rfl) (anownS_1_50 hc)
  · exact any_one _ (v := .sl 5 0 0) tabok_ownS hoownS_1_6 (trivial) (by kernel_rfl) (by kernel_rfl) (by kernel_rfl) (anownS_1_55 hc)
  · exact any_one _ (v := vownS_1_0 z 8) tabok_ownS hoownS_1_8 (trivial) (by kernel_rfl) (by kernel_rfl) (by kernel_rfl) (anownS_1_59 hc)
theorem anownS_1_61 {z : zownS_1} (hc : cownS_1_0 z) : aownS_1_0 z 12 3 (qownS_1_0 z 3 []) (HownS_1_0 z [3]) := by
  refine any_next [2, 6, 7] (by kernel_rfl) (by decide) fun i hi => ?_
  rcases two3 hi with rfl | rfl | rfl
  · exact any_one _ (v := vownS_1_0 z 2) tabok_ownS hoownS_1_2 (trivial) (by kernel_rfl) (by kernel_rfl) (by kernel_rfl) (anownS_1_51 hc)
  · exact any_one _ (v := .sl 5 0 0) tabok_ownS hoownS_1_6 (trivial) (by kernel_rfl) (by kernel_rfl) (by kernel_rfl) (anownS_1_56 hc)
  · exact any_one _ (v := vownS_1_0 z 7) tabok_ownS hoownS_1_7 (trivial) (by kernel_rfl) (by kernel_rfl) (by kernel_rfl) (anownS_1_60 hc)
theorem anownS_1_62 {z : zownS_1} (hc : cownS_1_0 z) : aownS_1_0 z 8 1985 (qownS_1_0 z 1985 [(9, .sl 5 0 0)]) (HownS_1_0 z [3, 3]) := by
  refine any_next [1] (by kernel_rfl) (by decide) fun i hi => ?_
  obtain rfl := two1 hi
  · exact any_one _ (v := vownS_1_0 z 1) tabok_ownS hoownS_1_1 (trivial) (by kernel_rfl) (by kernel_rfl) (by kernel_rfl) (anownS_1_52 hc)
theorem anownS_1_63 {z : zownS_1} (hc : cownS_1_0 z) : aownS_1_0 z 9 961 (qownS_1_0 z 961 [(9, .sl 5 0 0)]) (HownS_1_0 z [3, 3]) := by
  refine any_next [1, 10] (by kernel_rfl) (by decide) fun i hi => ?_
  rcases two2 hi with rfl | rfl
  · exact any_one _ (v := vownS_1_0 z 1) tabok_ownS hoownS_1_1 (trivial) (by kernel_rfl) (by kernel_rfl) (by kernel_rfl) (anownS_1_53 hc)
  · exact any_one _ (v := vownS_1_0 z 10) tabok_ownS hoownS_1_10 (trivial) (by kernel_rfl) (by kernel_rfl) (by kernel_rfl) (anownS_1_62 hc)
theorem anownS_1_64 {z : zownS_1} (hc : cownS_1_0 z) : aownS_1_0 z 10 449 (qownS_1_0 z 449 [(9, .sl 5 0 0)]) (HownS_1_0 z [3, 3]) := by
  refine any_next [1, 9] (by kernel_rfl) (by decide) fun i hi => ?_
  rcases two2 hi with rfl | rfl
  · exact any_one _ (v := vownS_1_0 z 1) tabok_ownS hoownS_1_1 (trivial) (by kernel_rfl) (by kernel_rfl) (by kernel_rfl) (anownS_1_54 hc)
  · exact any_one _ (v := vownS_1_0 z 9) tabok_ownS hoownS_1_9 (trivial) (by kernel_rfl) (by kernel_rfl) (by kernel_rfl) (anownS_1_63 hc)
theorem anownS_1_65 {z : zownS_1} (hc : cownS_1_0 z) : aownS_1_0 z 11 193 (qownS_1_0 z 193 [(9, .sl 5 0 0)]) (HownS_1_0 z [3, 3]) := by
  refine any_next [1, 8] (by kernel_rfl) (by decide) fun i hi => ?_
  rcases two2 hi with rfl | rfl
  · exact any_one _ (v := vownS_1_0 z 1) tabok_ownS hoownS_1_1 (trivial) (by kernel_rfl) (by kernel_rfl) (by kernel_rfl) (anownS_1_55 hc)
  · exact any_one _ (v := vownS_1_0 z 8) tabok_ownS hoownS_1_8 (trivial) (by kernel_rfl) (by kernel_rfl) (by kernel_rfl) (anownS_1_64 hc)
theorem anownS_1_66 {z : zownS_1} (hc : cownS_1_0 z) : aownS_1_0 z 12 65 (qownS_1_0 z 65 [(9, .sl 5 0 0)]) (HownS_1_0 z [3, 3]) := by
  refine any_next [1, 7] (by kernel_rfl) (by decide) fun i hi => ?_
  rcases two2 hi with rfl | rfl
  · exact any_one _ (v := vownS_1_0 z 1) tabok_ownS hoownS_1_1 (trivial) (by kernel_rfl) (by kernel_rfl) (by kernel_rfl) (anownS_1_56 hc)
  · exact any_one _ (v := vownS_1_0 z 7) tabok_ownS hoownS_1_7 (trivial) (by kernel_rfl) (by kernel_rfl) (by kernel_rfl) (anownS_1_65 hc)
theorem anownS_1_67 {z : zownS_1} (hc : cownS_1_0 z) : aownS_1_0 z 9 1921 (qownS_1_0 z 1921 []) (HownS_1_0 z [3]) := by
  refine any_next [1, 6] (by kernel_rfl) (by decide) fun i hi => ?_
  rcases two2 hi with rfl | rfl
  · exact any_one _ (v := vownS_1_0 z 1) tabok_ownS hoownS_1_1 (trivial) (by kernel_rfl) (by kernel_rfl) (by kernel_rfl) (anownS_1_57 hc)
  · exact any_one _ (v := .sl 5 0 0) tabok_ownS hoownS_1_6 (trivial) (by kernel_rfl) (by kernel_rfl) (by kernel_rfl) (anownS_1_62 hc)
theorem anownS_1_68 {z : zownS_1} (hc : cownS_1_0 z) : aownS_1_0 z 10 897 (qownS_1_0 z 897 []) (HownS_1_0 z [3]) := by
  refine any_next [1, 6, 10] (by kernel_rfl) (by decide) fun i hi => ?_
  rcases two3 hi with rfl | rfl | rfl
  · exact any_one _ (v := vownS_1_0 z 1) tabok_ownS hoownS_1_1 (trivial) (by kernel_rfl) (by kernel_rfl) (by kernel_rfl) (anownS_1_58 hc)
  · exact any_one _ (v := .sl 5 0 0) tabok_ownS hoownS_1_6 (trivial) (by kernel_rfl) (by kernel_rfl) (by kernel_rfl) (anownS_1_63 hc)
  · exact any_one _ (v := vownS_1_0 z 10) tabok_ownS hoownS_1_10 (trivial) (by kernel_rfl) (by kernel_rfl) (by kernel_rfl) (anownS_1_67 hc)
theorem anownS_1_69 {z : zownS_1} (hc : cownS_1_0 z) : aownS_1_0 z 11 385 (qownS_1_0 z 385 []) (HownS_1_0 z [3]) := by
  refine any_next [1, 6, 9] (by kernel_rfl) (by decide) fun i hi => ?_
  rcases two3 hi with rfl | rfl | rfl
  · exact any_one _ (v := vownS_1_0 z 1) tabok_ownS hoownS_1_1 (trivial) (by kernel_rfl) (by kernel_rfl) (by kernel_rfl) (anownS_1_59 hc)
  · exact any_one _ (v := .sl 5 0 0) tabok_ownS hoownS_1_6 (trivial) (by kernel_rfl) (by kernel_rfl) (by kernel_rfl) (anownS_1_64 hc)
  · exact any_one _ (v := vownS_1_0 z 9) tabok_ownS hoownS_1_9 (trivial) (by kernel_rfl) (by kernel_rfl) (by kernel_rfl) (anownS_1_68 hc)
theorem anownS_1_70 {z : zownS_1} (hc : cownS_1_0 z) : aownS_1_0 z 12 129 (qownS_1_0 z 129 []) (HownS_1_0 z [3]) := by
  refine any_next [1, 6, 8] (by kernel_rfl) (by decide) fun i hi => ?_
  rcases two3 hi with rfl | rfl | rfl
  · exact any_one _ (v := vownS_1_0 z 1) tabok_ownS hoownS_1_1 (trivial) (by kernel_rfl) (by kernel_rfl) (by kernel_rfl) (anownS_1_60 hc)
  · exact any_one _ (v := .sl 5 0 0) tabok_ownS hoownS_1_6 (trivial) (by kernel_rfl) (by kernel_rfl) (by kernel_rfl) (anownS_1_65 hc)
  · exact any_one _ (v := vownS_1_0 z 8) tabok_ownS hoownS_1_8 (trivial) (by kernel_rfl) (by kernel_rfl) (by kernel_rfl) (anownS_1_69 hc)
theorem anownS_1_71 {z : zownS_1} (hc : cownS_1_0 z) : aownS_1_0 z 13 1 (qownS_1_0 z 1 []) (HownS_1_0 z [3]) := by
  refine any_next [1, 6, 7] (by kernel_rfl) (by decide) fun i hi => ?_
  rcases two3 hi with rfl | rfl | rfl
  · exact any_one _ (v := vownS_1_0 z 1) tabok_ownS hoownS_1_1 (trivial) (by kernel_rfl) (by kernel_rfl) (by kernel_rfl) (anownS_1_61 hc)
  · exact any_one _ (v := .sl 5 0 0) tabok_ownS hoownS_1_6 (trivial) (by kernel_rfl) (by kernel_rfl) (by kernel_rfl) (anownS_1_66 hc)
  · exact any_one _ (v := vownS_1_0 z 7) tabok_ownS hoownS_1_7 (trivial) (by kernel_rfl) (by kernel_rfl) (by kernel_rfl) (anownS_1_70 hc)
theorem anownS_1_72 {z : zownS_1} (hc : cownS_1_0 z) : aownS_1_0 z 0 16383 (qownS_1_0 z 16383 [(3, .sl 5 0 0), (8, .sl 6 0 (0 + (yownS_11 z))), (9, .sl 4 0 0), (15, .g [.sl 6 0 (0 + (yownS_11 z)), .sl 7 0 (0 + (yownS_12 z))])]) [.at (yownS_10 z) (.as 1 [.sl 1 0 (yownS_11 z), .sl 2 0 (yownS_12 z)]), .at (yownS_13 z) (.fl .f32 (yownS_14 z)), .at (yownS_15 z) (.fl .f32 (yownS_16 z)), .at true (.as 1 [.sl 6 0 (0 + (yownS_11 z)), .sl 7 0 (0 + (yownS_12 z))]), .gone, .gone, .at true (.fl .f32 (([] : List Nat) ++ (((yownS_14 z).drop 0).take ((yownS_11 z) * 1)))), .at true (.fl .f32 (([] : List Nat) ++ (((yownS_16 z).drop 0).take ((yownS_12 z) * 1))))] := ⟨by kernel_rfl, [0, 1, 2, 3, 6, 7], by decide, by decide, by kernel_rfl, by kernel_rfl⟩
theorem anownS_1_73 {z : zownS_1} (hc : cownS_1_0 z) : aownS_1_0 z 1 8191 (qownS_1_0 z 8191 [(3, .sl 5 0 0), (8, .sl 6 0 (0 + (yownS_11 z))), (9, .sl 4 0 0), (15, .g [.sl 6 0 (0 + (yownS_11 z)), .sl 7 0 (0 + (yownS_12 z))])]) (HownS_1_0 z [0, 0, 1, 2]) := by
  refine any_next [13] (by kernel_rfl) (by decide) fun i hi => ?_
  obtain rfl := two1 hi
  · exact any_one _ (v := vownS_1_0 z 13) tabok_ownS hoownS_1_13 (trivial) (by kernel_rfl) (by kernel_rfl) (by kernel_rfl) (anownS_1_72 hc)
theorem anownS_1_74 {z : zownS_1} (hc : cownS_1_0 z) : aownS_1_0 z 2 4095 (qownS_1_0 z 4095 [(3, .sl 5 0 0), (8, .sl 6 0 (0 + (yownS_11 z))), (9, .sl 4 0 0)]) (HownS_1_0 z [0, 0, 1, 2]) := by
  refine any_next [12] (by kernel_rfl) (by decide) fun i hi => ?_
  obtain rfl := two1 hi
  · exact any_one _ (v := .g [.sl 6 0 (0 + (yownS_11 z)), .sl 7 0 (0 + (yownS_12 z))]) tabok_ownS hoownS_1_12 (trivial) (by kernel_rfl) (by kernel_rfl) (by kernel_rfl) (anownS_1_73 hc)
theorem anownS_1_75 {z : zownS_1} (hc : cownS_1_0 z) : aownS_1_0 z 3 2047 (qownS_1_0 z 2047 [(3, .sl 5 0 0), (8, .sl 6 0 (0 + (yownS_11 z))), (9, .sl 4 0 0)]) (HownS_1_0 z [3, 0, 1]) := by
  refine any_next [11] (by kernel_rfl) (by decide) fun i hi => ?_
  obtain rfl := two1 hi
  · exact any_one _ (v := vownS_1_0 z 11) tabok_ownS hoownS_1_11 (trivial) (by
      refine Eq.trans (b := (match decide (0 + (yownS_12 z) * 1 ≤ (yownS_16 z).length) with | true => (match apok true 0 1 0 1 (0 + (yownS_12 z)) 4 with | true => some ((.sl 7 0 (0 + (yownS_12 z))), [.at (yownS_10 z) (.as 1 [.sl 1 0 (yownS_11 z), .sl 2 0 (yownS_12 z)]), .at (yownS_13 z) (.fl .f32 (yownS_14 z)), .at (yownS_15 z) (.fl .f32 (yownS_16 z)), .at true (.as 1 [.nil, .nil]), .gone, .gone, .at true (.fl .f32 (([] : List Nat) ++ (((yownS_14 z).drop 0).take ((yownS_11 z) * 1)))), .at true (.fl .f32 (([] : List Nat) ++ (((yownS_16 z).drop 0).take ((yownS_12 z) * 1))))]) | false => none) | false => none)) (by kernel_rfl) ?_
      rw [hc.2.2.1, hc.2.2.2]
      try rfl) (by kernel_rfl) (by kernel_rfl) (anownS_1_74 hc)
theorem anownS_1_76 {z : zownS_1} (hc : cownS_1_0 z) : aownS_1_0 z 4 1023 (qownS_1_0 z 1023 [(3, .sl 5 0 0), (8, .sl 6 0 (0 + (yownS_11 z))), (9, .sl 4 0 0)]) (HownS_1_0 z [3, 0, 1]) := by
  refine any_next [10] (by kernel_rfl) (by decide) fun i hi => ?_
  obtain rfl := two1 hi
  · exact any_one _ (v := vownS_1_0 z 10) tabok_ownS hoownS_1_10 (trivial) (by kernel_rfl) (by kernel_rfl) (by kernel_rfl) (anownS_1_75 hc)
theorem anownS_1_77 {z : zownS_1} (hc : cownS_1_0 z) : aownS_1_0 z 5 511 (qownS_1_0 z 511 [(3, .sl 5 0 0), (8, .sl 6 0 (0 + (yownS_11 z))), (9, .sl 4 0 0)]) (HownS_1_0 z [3, 0, 1]) := by
  refine any_next [9] (by kernel_rfl) (by decide) fun i hi => ?_
  obtain rfl := two1 hi
  · exact any_one _ (v := vownS_1_0 z 9) tabok_ownS hoownS_1_9 (trivial) (by kernel_rfl) (by kernel_rfl) (by kernel_rfl) (anownS_1_76 hc)
theorem anownS_1_78 {z : zownS_1} (hc : cownS_1_0 z) : aownS_1_0 z 6 255 (qownS_1_0 z 255 [(3, .sl 5 0 0), (8, .sl 6 0 (0 + (yownS_11 z))), (9, .sl 4 0 0)]) (HownS_1_0 z [3, 0, 1]) := by
  refine any_next [8] (by kernel_rfl) (by decide) fun i hi => ?_
  obtain rfl := two1 hi
  · exact any_one _ (v := vownS_1_0 z 8) tabok_ownS hoownS_1_8 (trivial) (by kernel_rfl) (by kernel_rfl) (by kernel_rfl) (anownS_1_77 hc)
theorem anownS_1_79 {z : zownS_1} (hc : cownS_1_0 z) : aownS_1_0 z 7 127 (qownS_1_0 z 127 [(3, .sl 5 0 0), (8, .sl 6 0 (0 + (yownS_11 z))), (9, .sl 4 0 0)]) (HownS_1_0 z [3, 0, 1]) := by
  refine any_next [7] (by kernel_rfl) (by decide) fun i hi => ?_
  obtain rfl := two1 hi
  · exact any_one _ (v := vownS_1_0 z 7) tabok_ownS hoownS_1_7 (trivial) (by kernel_rfl) (by kernel_rfl) (by kernel_rfl) (anownS_1_78 hc)
theorem anownS_1_80 {z : zownS_1} (hc : cownS_1_0 z) : aownS_1_0 z 4 2015 (qownS_1_0 z 2015 [(3, .sl 5 0 0), (9, .sl 4 0 0)]) (HownS_1_0 z [3, 3]) := by
  refine any_next [5] (by kernel_rfl) (by decide) fun i hi => ?_
  obtain rfl := two1 hi
  · exact any_one _ (v := .sl 6 0 (0 + (yownS_11 z))) tabok_ownS hoownS_1_5 (trivial) (by
      refine Eq.trans (b := (match decide (0 + (yownS_11 z) * 1 ≤ (yownS_14 z).length) with | true => (match apok true 0 1 0 1 (0 + (yownS_11 z)) 4 with | true => some ((.sl 6 0 (0 + (yownS_11 z))), [.at (yownS_10 z) (.as 1 [.sl 1 0 (yownS_11 z), .sl 2 0 (yownS_12 z)]), .at (yownS_13 z) (.fl .f32 (yownS_14 z)), .at (yownS_15 z) (.fl .f32 (yownS_16 z)), .at true (.as 1 [.nil, .nil]), .at true (.fl .f32 ([] : List Nat)), .gone, .at true (.fl .f32 (([] : List Nat) ++ (((yownS_14 z).drop 0).take ((yownS_11 z) * 1))))]) | false => none) | false => none)) (by kernel_rfl) ?_
      rw [hc.1, hc.2.1]
      try rfl) (by kernel_rfl) (by kernel_rfl) (anownS_1_75 hc)
theorem anownS_1_81 {z : zownS_1} (hc : cownS_1_0 z) : aownS_1_0 z 5 991 (qownS_1_0 z 991 [(3, .sl 5 0 0), (9, .sl 4 0 0)]) (HownS_1_0 z [3, 3]) := by
  refine any_next [5, 10] (by kernel_rfl) (by decide) fun i hi => ?_
  rcases two2 hi with rfl | rfl
  · exact any_one _ (v := .sl 6 0 (0 + (yownS_11 z))) tabok_ownS hoownS_1_5 (trivial) (by
      refine Eq.trans (b := (match decide (0 + (yownS_11 z) * 1 ≤ (yownS_14 z).length) with | true => (match apok true 0 1 0 1 (0 + (yownS_11 z)) 4 with | true => some ((.sl 6 0 (0 + (yownS_11 z))), [.at (yownS_10 z) (.as 1 [.sl 1 0 (yownS_11 z), .sl 2 0 (yownS_12 z)]), .at (yownS_13 z) (.fl .f32 (yownS_14 z)), .at (yownS_15 z) (.fl .f32 (yownS_16 z)), .at true (.as 1 [.nil, .nil]), .at true (.fl .f32 ([] : List Nat)), .gone, .at true (.fl .f32 (([] : List Nat) ++ (((yownS_14 z).drop 0).take ((yownS_11 z) * 1))))]) | false => none) | false => none)) (by kernel_rfl) ?_
      rw [hc.1, hc.2.1]
      try rfl) (by kernel_rfl) (by kernel_rfl) (anownS_1_76 hc)
  · exact any_one _ (v := vownS_1_0 z 10) tabok_ownS hoownS_1_10 (trivial) (by kernel_rfl) (by kernel_rfl) (by kernel_rfl) (anownS_1_80 hc)
theorem anownS_1_82 {z : zownS_1} (hc : cownS_1_0 z) : aownS_1_0 z 6 479 (qownS_1_0 z 479 [(3, .sl 5 0 0), (9, .sl 4 0 0)]) (HownS_1_0 z [3, 3]) := by
  refine any_next [5, 9] (by kernel_rfl) (by decide) fun i hi => ?_
  rcases two2 hi with rfl | rfl
  · exact any_one _ (v := .sl 6 0 (0 + (yownS_11 z))) tabok_ownS hoownS_1_5 (trivial) (by
      refine Eq.trans (b := (match decide (0 + (yownS_11 z) * 1 ≤ (yownS_14 z).length) with | true => (match apok true 0 1 0 1 (0 + (yownS_11 z)) 4 with | true => some ((.sl 6 0 (0 + (yownS_11 z))), [.at (yownS_10 z) (.as 1 [.sl 1 0 (yownS_11 z), .sl 2 0 (yownS_12 z)]), .at (yownS_13 z) (.fl .f32 (yownS_14 z)), .at (yownS_15 z) (.fl .f32 (yownS_16 z)), .at true (.as 1 [.nil, .nil]), .at true (.fl .f32 ([] : List Nat)), .gone, .at true (.fl .f32 (([] : List Nat) ++ (((yownS_14 z).drop 0).take ((yownS_11 z) * 1))))]) | false => none) | false => none)) (by kernel_rfl) ?_
      rw [hc.1, hc.2.1]
      try rfl) (by kernel_rfl) (by kernel_rfl) (anownS_1_77 hc)
  · exact any_one _ (v := vownS_1_0 z 9) tabok_ownS hoownS_1_9 (trivial) (by kernel_rfl) (by kernel_rfl) (by kernel_rfl) (anownS_1_81 hc)
theorem anownS_1_83 {z : zownS_1} (hc : cownS_1_0 z) : aownS_1_0 z 7 223 (qownS_1_0 z 223 [(3, .sl 5 0 0), (9, .sl 4 0 0)]) (HownS_1_0 z [3, 3]) := by
  refine any_next [5, 8] (by kernel_rfl) (by decide) fun i hi => ?_
  rcases two2 hi with rfl | rfl
  · exact any_one _ (v := .sl 6 0 (0 + (yownS_11 z))) tabok_ownS hoownS_1_5 (trivial) (by
      refine Eq.trans (b := (match decide (0 + (yownS_11 z) * 1 ≤ (yownS_14 z).length) with | true => (match apok true 0 1 0 1 (0 + (yownS_11 z)) 4 with | true => some ((.sl 6 0 (0 + (yownS_11 z))), [.at (yownS_10 z) (.as 1 [.sl 1 0 (yownS_11 z), .sl 2 0 (yownS_12 z)]), .at (yownS_13 z) (.fl .f32 (yownS_14 z)), .at (yownS_15 z) (.fl .f32 (yownS_16 z)), .at true (.as 1 [.nil, .nil]), .at true (.fl .f32 ([] : List Nat)), .gone, .at true (.fl .f32 (([] : List Nat) ++ (((yownS_14 z).drop 0).take ((yownS_11 z) * 1))))]) | false => none) | false => none)) (by kernel_rfl) ?_
      rw [hc.1, hc.2.1]
      try rfl) (by kernel_rfl) (by kernel_rfl) (anownS_1_78 hc)
  · exact any_one _ (v := vownS_1_0 z 8) tabok_ownS hoownS_1_8 (trivial) (by kernel_rfl) (by kernel_rfl) (by kernel_rfl) (anownS_1_82 hc)
theorem anownS_1_84 {z : zownS_1} (hc : cownS_1_0 z) : aownS_1_0 z 8 95 (qownS_1_0 z 95 [(3, .sl 5 0 0), (9, .sl 4 0 0)]) (HownS_1_0 z [3, 3]) := by
  refine any_next [5, 7] (by kernel_rfl) (by decide) fun i hi => ?_
  rcases two2 hi with rfl | rfl
  · exact any_one _ (v := .sl 6 0 (0 + (yownS_11 z))) tabok_ownS hoownS_1_5 (trivial) (by
      refine Eq.trans (b := (match decide (0 + (yownS_11 z) * 1 ≤ (yownS_14 z).length) with | true => (match apok true 0 1 0 1 (0 + (yownS_11 z)) 4 with | true => some ((.sl 6 0 (0 + (yownS_11 z))), [.at (yownS_10 z) (.as 1 [.sl 1 0 (yownS_11 z), .sl 2 0 (yownS_12 z)]), .at (yownS_13 z) (.fl .f32 (yownS_14 z)), .at (yownS_15 z) (.fl .f32 (yownS_16 z)), .at true (.as 1 [.nil, .nil]), .at true (.fl .f32 ([] : List Nat)), .gone, .at true (.fl .f32 (([] : List Nat) ++ (((yownS_14 z).drop 0).take ((yownS_11 z) * 1))))]) | false => none) | false => none)) (by kernel_rfl) ?_
      rw [hc.1, hc.2.1]
      try rfl) (by kernel_rfl) (by kernel_rfl) (anownS_1_79 hc)
  · exact any_one _ (v := vownS_1_0 z 7) tabok_ownS hoownS_1_7 (trivial) (by kernel_rfl) (by kernel_rfl) (by kernel_rfl) (anownS_1_83 hc)
theorem anownS_1_85 {z : zownS_1} (hc : cownS_1_0 z) : aownS_1_0 z 5 2014 (qownS_1_0 z 2014 [(9, .sl 4 0 0)]) (HownS_1_0 z [3]) := by
  refine any_next [0] (by kernel_rfl) (by decide) fun i hi => ?_
  obtain rfl := two1 hi
  · exact any_one _ (v := .sl 5 0 0) tabok_ownS hoownS_1_0 (trivial) (by kernel_rfl) (by kernel_rfl) (by kernel_rfl) (anownS_1_80 hc)
theorem anownS_1_86 {z : zownS_1} (hc : cownS_1_0 z) : aownS_1_0 z 6 990 (qownS_1_0 z 990 [(9, .sl 4 0 0)]) (HownS_1_0 z [3]) := by
  refine any_next [0, 10] (by kernel_rfl) (by decide) fun i hi => ?_
  rcases two2 hi with rfl | rfl
  · exact any_one _ (v := .sl 5 0 0) tabok_ownS hoownS_1_0 (trivial) (by kernel_rfl) (by kernel_rfl) (by kernel_rfl) (anownS_1_81 hc)
  · exact any_one _ (v := vownS_1_0 z 10) tabok_ownS hoownS_1_10 (trivial) (by kernel_rfl) (by kernel_rfl) (by kernel_rfl) (anownS_1_85 hc)
theorem anownS_1_87 {z : zownS_1} (hc : cownS_1_0 z) : aownS_1_0 z 7 478 (qownS_1_0 z 478 [(9, .sl 4 0 0)]) (HownS_1_0 z [3]) := by
  refine any_next [0, 9] (by kernel_rfl) (by decide) fun i hi => ?_
  rcases two2 hi with rfl | rfl
  · exact any_one _ (v := .sl 5 0 0) tabok_ownS hoownS_1_0 (trivial) (by kernel_rfl) (by kernel_rfl) (by kernel_rfl) (anownS_1_82 hc)
  · exact any_one _ (v := vownS_1_0 z 9) tabok_ownS hoownS_1_9 (trivial) (by kernel_rfl) (by kernel_rfl) (by kernel_rfl) (anownS_1_86 hc)
theorem anownS_1_88 {z : zownS_1} (hc : cownS_1_0 z) : aownS_1_0 z 8 222 (qownS_1_0 z 222 [(9, .sl 4 0 0)]) (HownS_1_0 z [3]) := by
  refine any_next [0, 8] (by kernel_rfl) (by decide) fun i hi => ?_
  rcases two2 hi with rfl | rfl
  · exact any_one _ (v := .sl 5 0 0) tabok_ownS hoownS_1_0 (trivial) (by kernel_rfl) (by kernel_rfl) (by kernel_rfl) (anownS_1_83 hc)
  · exact any_one _ (v := vownS_1_0 z 8) tabok_ownS hoownS_1_8 (trivial) (by kernel_rfl) (by kernel_rfl) (by kernel_rfl) (anownS_1_87 hc)
theorem anownS_1_89 {z : zownS_1} (hc : cownS_1_0 z) : aownS_1_0 z 9 94 (qownS_1_0 z 94 [(9, .sl 4 0 0)]) (HownS_1_0 z [3]) := by
  refine any_next [0, 7] (by kernel_rfl) (by decide) fun i hi => ?_
  rcases two2 hi with rfl | rfl
  · exact any_one _ (v := .sl 5 0 0) tabok_ownS hoownS_1_0 (trivial) (by kernel_rfl) (by kernel_rfl) (by kernel_rfl) (anownS_1_84 hc)
  · exact any_one _ (v := vownS_1_0 z 7) tabok_ownS hoownS_1_7 (trivial) (by kernel_rfl) (by kernel_rfl) (by kernel_rfl) (anownS_1_88 hc)
theorem anownS_1_90 {z : zownS_1} (hc : cownS_1_0 z) : aownS_1_0 z 6 1950 (qownS_1_0 z 1950 []) (HownS_1_0 z []) := by
  refine any_next [0, 6] (by kernel_rfl) (by decide) fun i hi => ?_
  rcases two2 hi with rfl | rfl
  · exact any_one _ (v := vownS_1_0 z 0) tabok_ownS hoownS_1_0 (trivial) (by kernel_rfl) (by kernel_rfl) (by kernel_rfl) (anownS_1_27 hc)
  · exact any_one _ (v := .sl 4 0 0) tabok_ownS hoownS_1_6 (trivial) (by kernel_rfl) (by kernel_rfl) (by kernel_rfl) (anownS_1_85 hc)
theorem anownS_1_91 {z : zownS_1} (hc : cownS_1_0 z) : aownS_1_0 z 7 926 (qownS_1_0 z 926 []) (HownS_1_0 z []) := by
  refine any_next [0, 6, 10] (by kernel_rfl) (by decide) fun i hi => ?_
  rcases two3 hi with rfl | rfl | rfl
  · exact any_one _ (v := vownS_1_0 z 0) tabok_ownS hoownS_1_0 (trivial) (by kernel_rfl) (by kernel_rfl) (by kernel_rfl) (anownS_1_28 hc)
  · exact any_one _ (v := .sl 4 0 0) tabok_ownS hoownS_1_6 (trivial) (by kernel_rfl) (by kernel_rfl) (by kernel_rfl) (anownS_1_86 hc)
  · exact any_one _ (v := vownS_1_0 z 10) tabok_ownS hoownS_1_10 (trivial) (by kernel_rfl) (by kernel_rfl) (by kernel_rfl) (anownS_1_90 hc)
theorem anownS_1_92 {z : zownS_1} (hc : cownS_1_0 z) : aownS_1_0 z 8 414 (qownS_1_0 z 414 []) (HownS_1_0 z []) := by
  refine any_next [0, 6, 9] (by kernel_rfl) (by decide) fun i hi => ?_
  rcases two3 hi with rfl | rfl | rfl
  · exact any_one _ (v := vownS_1_0 z 0) tabok_ownS hoownS_1_0 (trivial) (by kernel_rfl) (by kernel_rfl) (by kernel_rfl) (anownS_1_29 hc)
  · exact any_one _ (v := .sl 4 0 0) tabok_ownS hoownS_1_6 (trivial) (by kernel_rfl) (by kernel_rfl) (by kernel_rfl) (anownS_1_87 hc)
  · exact any_one _ (v := vownS_1_0 z 9) tabok_ownS hoownS_1_9 (trivial) (by kernel_rfl) (by kernel_rfl) (by kernel_rfl) (anownS_1_91 hc)
theorem anownS_1_93 {z : zownS_1} (hc : cownS_1_0 z) : aownS_1_0 z 9 158 (qownS_1_0 z 158 []) (HownS_1_0 z []) := by
  refine any_next [0, 6, 8] (by kernel_rfl) (by decide) fun i hi => ?_
  rcases two3 hi with rfl | rfl | rfl
  · exact any_one _ (v := vownS_1_0 z 0) tabok_ownS hoownS_1_0 (trivial) (by kernel_rfl) (by kernel_rfl) (by kernel_rfl) (anownS_1_30 hc)
  · exact any_one _ (v := .sl 4 0 0) tabok_ownS hoownS_1_6 (trivial) (by kernel_rfl) (by kernel_rfl) (by kernel_rfl) (anownS_1_88 hc)
  · exact any_one _ (v := vownS_1_0 z 8) tabok_ownS hoownS_1_8 (trivial) (by kernel_rfl) (by kernel_rfl) (by kernel_rfl) (anownS_1_92 hc)
theorem anownS_1_94 {z : zownS_1} (hc : cownS_1_0 z) : aownS_1_0 z 10 30 (qownS_1_0 z 30 []) (HownS_1_0 z []) := by
  refine any_next [0, 6, 7] (by kernel_rfl) (by decide) fun i hi => ?_
  rcases two3 hi with rfl | rfl | rfl
  · exact any_one _ (v := vownS_1_0 z 0) tabok_ownS hoownS_1_0 (trivial) (by kernel_rfl) (by kernel_rfl) (by kernel_rfl) (anownS_1_31 hc)
  · exact any_one _ (v := .sl 4 0 0) tabok_ownS hoownS_1_6 (trivial) (by kernel_rfl) (by kernel_rfl) (by kernel_rfl) (anownS_1_89 hc)
  · exact any_one _ (v := vownS_1_0 z 7) tabok_ownS hoownS_1_7 (trivial) (by kernel_rfl) (by kernel_rfl) (by kernel_rfl) (anownS_1_93 hc)
theorem anownS_1_95 {z : zownS_1} (hc : cownS_1_0 z) : aownS_1_0 z 5 1999 (qownS_1_0 z 1999 [(3, .sl 5 0 0), (9, .sl 4 0 0)]) (HownS_1_0 z [3, 3]) := by
  refine any_next [4] (by kernel_rfl) (by decide) fun i hi => ?_
  obtain rfl := two1 hi
  · exact any_one _ (v := vownS_1_0 z 4) tabok_ownS hoownS_1_4 (trivial) (by kernel_rfl) (by kernel_rfl) (by kernel_rfl) (anownS_1_80 hc)
theorem anownS_1_96 {z : zownS_1} (hc : cownS_1_0 z) : aownS_1_0 z 6 975 (qownS_1_0 z 975 [(3, .sl 5 0 0), (9, .sl 4 0 0)]) (HownS_1_0 z [3, 3]) := by
  refine any_next [4, 10] (by kernel_rfl) (by decide) fun i hi => ?_
  rcases two2 hi with rfl | rfl
  · exact any_one _ (v := vownS_1_0 z 4) tabok_ownS hoownS_1_4 (trivial) (by kernel_rfl) (by kernel_rfl) (by kernel_rfl) (anownS_1_81 hc)
  · exact any_one _ (v := vownS_1_0 z 10) tabok_ownS hoownS_1_10 (trivial) (by kernel_rfl) (by kernel_rfl) (by kernel_rfl) (anownS_1_95 hc)
theorem anownS_1_97 {z : zownS_1} (hc : cownS_1_0 z) : aownS_1_0 z 7 463 (qownS_1_0 z 463 [(3, .sl 5 0 0), (9, .sl 4 0 0)]) (HownS_1_0 z [3, 3]) := by
  refine any_next [4, 9] (by kernel_rfl) (by decide) fun i hi => ?_
  rcases two2 hi with rfl | rfl
  · exact any_one _ (v := vownS_1_0 z 4) tabok_ownS hoownS_1_4 (trivial) (by kernel_rfl) (by kernel_rfl) (by kernel_rfl) (anownS_1_82 hc)
  · exact any_one _ (v := vownS_1_0 z 9) tabok_ownS hoownS_1_9 (trivial) (by kernel_rfl) (by kernel_rfl) (by kernel_rfl) (anownS_1_96 hc)
theorem anownS_1_98 {z : zownS_1} (hc : cownS_1_0 z) : aownS_1_0 z 8 207 (qownS_1_0 z 207 [(3, .sl 5 0 0), (9, .sl 4 0 0)]) (HownS_1_0 z [3, 3]) := by
  refine any_next [4, 8] (by kernel_rfl) (by decide) fun i hi => ?_
  rcases two2 hi with rfl | rfl
  · exact any_one _ (v := vownS_1_0 z 4) tabok_ownS hoownS_1_4 (trivial) (by kernel_rfl) (by kernel_rfl) (by kernel_rfl) (anownS_1_83 hc)
  · exact any_one _ (v := vownS_1_0 z 8) tabok_ownS hoownS_1_8 (trivial) (by kernel_rfl) (by kernel_rfl) (by kernel_rfl) (anownS_1_97 hc)
theorem anownS_1_99 {z : zownS_1} (hc : cownS_1_0 z) : aownS_1_0 z 9 79 (qownS_1_0 z 79 [(3, .sl 5 0 0), (9, .sl 4 0 0)]) (HownS_1_0 z [3, 3]) := by
  refine any_next [4, 7] (by kernel_rfl) (by decide) fun i hi => ?_
  rcases two2 hi with rfl | rfl
  · exact any_one _ (v := vownS_1_0 z 4) tabok_ownS hoownS_1_4 (trivial) (by kernel_rfl) (by kernel_rfl) (by kernel_rfl) (anownS_1_84 hc)
  · exact any_one _ (v := vownS_1_0 z 7) tabok_ownS hoownS_1_7 (trivial) (by kernel_rfl) (by kernel_rfl) (by kernel_rfl) (anownS_1_98 hc)
theorem anownS_1_100 {z : zownS_1} (hc : cownS_1_0 z) : aownS_1_0 z 6 1998 (qownS_1_0 z 1998 [(9, .sl 4 0 0)]) (HownS_1_0 z [3]) := by
  refine any_next [0, 4] (by kernel_rfl) (by decide) fun i hi => ?_
  rcases two2 hi with rfl | rfl
  · exact any_one _ (v := .sl 5 0 0) tabok_ownS hoownS_1_0 (trivial) (by kernel_rfl) (by kernel_rfl) (by kernel_rfl) (anownS_1_95 hc)
  · exact any_one _ (v := vownS_1_0 z 4) tabok_ownS hoownS_1_4 (trivial) (by kernel_rfl) (by kernel_rfl) (by kernel_rfl) (anownS_1_85 hc)
theorem anownS_1_101 {z : zownS_1} (hc : cownS_1_0 z) : aownS_1_0 z 7 974 (qownS_1_0 z 974 [(9, .sl 4 0 0)]) (HownS_1_0 z [3]) := by
  refine any_next [0, 4, 10] (by kernel_rfl) (by decide) fun i hi => ?_
  rcases two3 hi with rfl | rfl | rfl
  · exact any_one _ (v := .sl 5 0 0) tabok_ownS hoownS_1_0 (trivial) (by kernel_rfl) (by kernel_rfl) (by kernel_rfl) (anownS_1_96 hc)
  · exact any_one _ (v := vownS_1_0 z 4) tabok_ownS hoownS_1_4 (trivial) (by kernel_rfl) (by kernel_rfl) (by kernel_rfl) (anownS_1_86 hc)
  · exact any_one _ (v := vownS_1_0 z 10) tabok_ownS hoownS_1_10 (trivial) (by kernel_rfl) (by kernel_rfl) (by kernel_rfl) (anownS_1_100 hc)
theorem anownS_1_102 {z : zownS_1} (hc : cownS_1_0 z) : aownS_1_0 z 8 462 (qownS_1_0 z 462 [(9, .sl 4 0 0)]) (HownS_1_0 z [3]) := by
  refine any_next [0, 4, 9] (by kernel_rfl) (by decide) fun i hi => ?_
  rcases two3 hi with rfl | rfl | rfl
  · exact any_one _ (v := .sl 5 0 0) tabok_ownS hoownS_1_0 (trivial) (by kernel_rfl) (by kernel_rfl) (by kernel_rfl) (anownS_1_97 hc)
  · exact any_one _ (v := vownS_1_0 z 4) tabok_ownS hoownS_1_4 (trivial) (by kernel_rfl) (by kernel_rfl) (by kernel_rfl) (anownS_1_87 hc)
  · exact any_one _ (v := vownS_1_0 z 9) tabok_ownS hoownS_1_9 (trivial) (by kernel_rfl) (by kernel_rfl) (by kernel_rfl) (anownS_1_101 hc)
theorem anownS_1_103 {z : zownS_1} (hc : cownS_1_0 z) : aownS_1_0 z 9 206 (qownS_1_0 z 206 [(9, .sl 4 0 0)]) (HownS_1_0 z [3]) := by
  refine any_next [0, 4, 8] (by kernel_rfl) (by decide) fun i hi => ?_
  rcases two3 hi with rfl | rfl | rfl
  · exact any_one _ (v := .sl 5 0 0) tabok_ownS hoownS_1_0 (trivial) (by kernel_rfl) (by kernel_rfl) (by kernel_rfl) (anownS_1_98 hc)
  · exact any_one _ (v := vownS_1_0 z 4) tabok_ownS hoownS_1_4 (trivial) (by kernel_rfl) (by kernel_rfl) (by kernel_rfl) (anownS_1_88 hc)
  · exact any_one _ (v := vownS_1_0 z 8) tabok_ownS hoownS_1_8 (trivial) (by kernel_rfl) (by kernel_rfl) (by kernel_rfl) (anownS_1_102 hc)
theorem anownS_1_104 {z : zownS_1} (hc : cownS_1_0 z) : aownS_1_0 z 10 78 (qownS_1_0 z 78 [(9, .sl 4 0 0)]) (HownS_1_0 z [3]) := by
  refine any_next [0, 4, 7] (by kernel_rfl) (by decide) fun i hi => ?_
  rcases two3 hi with rfl | rfl | rfl
  · exact any_one _ (v := .sl 5 0 0) tabok_ownS hoownS_1_0 (trivial) (by kernel_rfl) (by kernel_rfl) (by kernel_rfl) (anownS_1_99 hc)
  · exact any_one _ (v := vownS_1_0 z 4) tabok_ownS hoownS_1_4 (trivial) (by kernel_rfl) (by kernel_rfl) (by kernel_rfl) (anownS_1_89 hc)
  · exact any_one _ (v := vownS_1_0 z 7) tabok_ownS hoownS_1_7 (trivial) (by kernel_rfl) (by kernel_rfl) (by kernel_rfl) (anownS_1_103 hc)
theorem anownS_1_105 {z : zownS_1} (hc : cownS_1_0 z) : aownS_1_0 z 7 1934 (qownS_1_0 z 1934 []) (HownS_1_0 z []) := by
  refine any_next [0, 4, 6] (by kernel_rfl) (by decide) fun i hi => ?_
  rcases two3 hi with rfl | rfl | rfl
  · exact any_one _ (v := vownS_1_0 z 0) tabok_ownS hoownS_1_0 (trivial) (by kernel_rfl) (by kernel_rfl) (by kernel_rfl) (anownS_1_37 hc)
  · exact any_one _ (v := vownS_1_0 z 4) tabok_ownS hoownS_1_4 (trivial) (by kernel_rfl) (by kernel_rfl) (by kernel_rfl) (anownS_1_90 hc)
  · exact any_one _ (v := .sl 4 0 0) tabok_ownS hoownS_1_6 (trivial) (by kernel_rfl) (by kernel_rfl) (by kernel_rfl) (anownS_1_100 hc)
theorem anownS_1_106 {z : zownS_1} (hc : cownS_1_0 z) : aownS_1_0 z 8 910 (qownS_1_0 z 910 []) (HownS_1_0 z []) := by
  refine any_next [0, 4, 6, 10] (by kernel_rfl) (by decide) fun i hi => ?_
  rcases two4 hi with rfl | rfl | rfl | rfl
  · exact any_one _ (v := vownS_1_0 z 0) tabok_ownS hoownS_1_0 (trivial) (by kernel_rfl) (by kernel_rfl) (by kernel_rfl) (anownS_1_38 hc)
  · exact any_one _ (v := vownS_1_0 z 4) tabok_ownS hoownS_1_4 (trivial) (by kernel_rfl) (by kernel_rfl) (by kernel_rfl) (anownS_1_91 hc)
  · exact any_one _ (v := .sl 4 0 0) tabok_ownS hoownS_1_6 (trivial) (by kernel_rfl) (by kernel_rfl) (by kernel_rfl) (anownS_1_101 hc)
  · exact any_one _ (v := vownS_1_0 z 10) tabok_ownS hoownS_1_10 (trivial) (by kernel_rfl) (by kernel_rfl) (by kernel_rfl) (anownS_1_105 hc)
theorem anownS_1_107 {z : zownS_1} (hc : cownS_1_0 z) : aownS_1_0 z 9 398 (qownS_1_0 z 398 []) (HownS_1_0 z []) := by
  refine any_next [0, 4, 6, 9] (by kernel_rfl) (by decide) fun i hi => ?_
  rcases two4 hi with rfl | rfl | rfl | rfl
  · exact any_one _ (v := vownS_1_0 z 0) tabok_ownS hoownS_1_0 (trivial) (by kernel_rfl) (by kernel_rfl) (by kernel_rfl) (anownS_1_39 hc)
  · exact any_one _ (v := vownS_1_0 z 4) tabok_ownS hoownS_1_4 (trivial) (by kernel_rfl) (by kernel_rfl) (by kernel_rfl) (anownS_1_92 hc)
  · exact any_one _ (v := .sl 4 0 0) tabok_ownS hoownS_1_6 (trivial) (by kernel_rfl) (by kernel_rfl) (by kernel_rfl) (anownS_1_102 hc)
  · exact any_one _ (v := vownS_1_0 z 9) tabok_ownS hoownS_1_9 (trivial) (by kernel_rfl) (by kernel_rfl) (by kernel_rfl) (anownS_1_106 hc)
theorem anownS_1_108 {z : zownS_1} (hc : cownS_1_0 z) : aownS_1_0 z 10 142 (qownS_1_0 z 142 []) (HownS_1_0 z []) := by
  refine any_next [0, 4, 6, 8] (by kernel_rfl) (by decide) fun i hi => ?_
  rcases two4 hi with rfl | rfl | rfl | rfl
  · exact any_one _ (v := vownS_1_0 z 0) tabok_ownS hoownS_1_0 (trivial) (by kernel_rfl) (by kernel_rfl) (by kernel_rfl) (anownS_1_40 hc)
  · exact any_one _ (v := vownS_1_0 z 4) tabok_ownS hoownS_1_4 (trivial) (by kernel_rfl) (by kernel_rfl) (by kernel_rfl) (anownS_1_93 hc)
  · exact any_one _ (v := .sl 4 0 0) tabok_ownS hoownS_1_6 (trivial) (by kernel_rfl) (by kernel_rfl) (by kernel_rfl) (anownS_1_103 hc)
  · exact any_one _ (v := vownS_1_0 z 8) tabok_ownS hoownS_1_8 (trivial) (by kernel_rfl) (by kernel_rfl) (by kernel_rfl) (anownS_1_107 hc)
theorem anownS_1_109 {z : zownS_1} (hc : cownS_1_0 z) : aownS_1_0 z 11 14 (qownS_1_0 z 14 []) (HownS_1_0 z []) := by
  refine any_next [0, 4, 6, 7] (by kernel_rfl) (by decide) fun i hi => ?_
  rcases two4 hi with rfl | rfl | rfl | rfl
  · exact any_one _ (v := vownS_1_0 z 0) tabok_ownS hoownS_1_0 (trivial) (by kernel_rfl) (by kernel_rfl) (by kernel_rfl) (anownS_1_41 hc)
  · exact any_one _ (v := vownS_1_0 z 4) tabok_ownS hoownS_1_4 (trivial) (by kernel_rfl) (by kernel_rfl) (by kernel_rfl) (anownS_1_94 hc)
  · exact any_one _ (v := .sl 4 0 0) tabok_ownS hoownS_1_6 (trivial) (by kernel_rfl) (by kernel_rfl) (by kernel_rfl) (anownS_1_104 hc)
  · exact any_one _ (v := vownS_1_0 z 7) tabok_ownS hoownS_1_7 (trivial) (by kernel_rfl) (by kernel_rfl) (by kernel_rfl) (anownS_1_108 hc)
theorem anownS_1_110 {z : zownS_1} (hc : cownS_1_0 z) : aownS_1_0 z 6 1991 (qownS_1_0 z 1991 [(3, .sl 5 0 0), (9, .sl 4 0 0)]) (HownS_1_0 z [3, 3]) := by
  refine any_next [3] (by kernel_rfl) (by decide) fun i hi => ?_
  obtain rfl := two1 hi
  · exact any_one _ (v := vownS_1_0 z 3) tabok_ownS hoownS_1_3 (trivial) (by kernel_rfl) (by kernel_rfl) (by kernel_rfl) (anownS_1_95 hc)
theorem anownS_1_111 {z : zownS_1} (hc : cownS_1_0 z) : aownS_1_0 z 7 967 (qownS_1_0 z 967 [(3, .sl 5 0 0), (9, .sl 4 0 0)]) (HownS_1_0 z [3, 3]) := by
  refine any_next [3, 10] (by kernel_rfl) (by decide) fun i hi => ?_
  rcases two2 hi with rfl | rfl
  · exact any_one _ (v := vownS_1_0 z 3) tabok_ownS hoownS_1_3 (trivial) (by kernel_rfl) (by kernel_rfl) (by kernel_rfl) (anownS_1_96 hc)
  · exact any_one _ (v := vownS_1_0 z 10) tabok_ownS hoownS_1_10 (trivial) (by kernel_rfl) (by kernel_rfl) (by kernel_rfl) (anownS_1_110 hc)
theorem anownS_1_112 {z : zownS_1} (hc : cownS_1_0 z) : aownS_1_0 z 8 455 (qownS_1_0 z 455 [(3, .sl 5 0 0), (9, .sl 4 0 0)]) (HownS_1_0 z [3, 3]) := by
  refine any_next [3, 9] (by kernel_rfl) (by decide) fun i hi => ?_
  rcases two2 hi with rfl | rfl
  · exact any_one _ (v := vownS_1_0 z 3) tabok_ownS hoownS_1_3 (trivial) (by kernel_rfl) (by kernel_rfl) (by kernel_rfl) (anownS_1_97 hc)
  · exact any_one _ (v := vownS_1_0 z 9) tabok_ownS hoownS_1_9 (trivial) (by kernel_rfl) (by kernel_rfl) (by kernel_rfl) (anownS_1_111 hc)
theorem anownS_1_113 {z : zownS_1} (hc : cownS_1_0 z) : aownS_1_0 z 9 199 (qownS_1_0 z 199 [(3, .sl 5 0 0), (9, .sl 4 0 0)]) (HownS_1_0 z [3, 3]) := by
  refine any_next [3, 8] (by kernel_rfl) (by decide) fun i hi => ?_
  rcases two2 hi with rfl | rfl
  · exact any_one _ (v := vownS_1_0 z 3) tabok_ownS hoownS_1_3 (trivial) (by kernel_rfl) (by kernel_rfl) (by kernel_rfl) (anownS_1_98 hc)
  · exact any_one _ (v := vownS_1_0 z 8) tabok_ownS hoownS_1_8 (trivial) (by kernel_rfl) (by kernel_rfl) (by kernel_rfl) (anownS_1_112 hc)
theorem anownS_1_114 {z : zownS_1} (hc : cownS_1_0 z) : aownS_1_0 z 10 71 (qownS_1_0 z 71 [(3, .sl 5 0 0), (9, .sl 4 0 0)]) (HownS_1_0 z [3, 3]) := by
  refine any_next [3, 7] (by kernel_rfl) (by decide) fun i hi => ?_
  rcases two2 hi with rfl | rfl
  · exact any_one _ (v := vownS_1_0 z 3) tabok_ownS hoownS_1_3 (trivial) (by kernel_rfl) (by kernel_rfl) (by kernel_rfl) (anownS_1_99 hc)
  · exact any_one _ (v := vownS_1_0 z 7) tabok_ownS hoownS_1_7 (trivial) (by kernel_rfl) (by kernel_rfl) (by kernel_rfl) (anownS_1_113 hc)
theorem anownS_1_115 {z : zownS_1} (hc : cownS_1_0 z) : aownS_1_0 z 7 1990 (qownS_1_0 z 1990 [(9, .sl 4 0 0)]) (HownS_1_0 z [3]) := by
  refine any_next [0, 3] (by kernel_rfl) (by decide) fun i hi => ?_
  rcases two2 hi with rfl | rfl
  · exact any_one _ (v := .sl 5 0 0) tabok_ownS hoownS_1_0 (trivial) (by kernel_rfl) (by kernel_rfl) (by kernel_rfl) (anownS_1_110 hc)
  · exact any_one _ (v := vownS_1_0 z 3) tabok_ownS hoownS_1_3 (trivial) (by kernel_rfl) (by kernel_rfl) (by kernel_rfl) (anownS_1_100 hc)
theorem anownS_1_116 {z : zownS_1} (hc : cownS_1_0 z) : aownS_1_0 z 8 966 (qownS_1_0 z 966 [(9, .sl 4 0 0)]) (HownS_1_0 z [3]) := by
  refine any_next [0, 3, 10] (by kernel_rfl) (by decide) fun i hi => ?_
  rcases two3 hi with rfl | rfl | rfl
  · exact any_one _ (v := .sl 5 0 0) tabok_ownS hoownS_1_0 (trivial) (by kernel_rfl) (by kernel_rfl) (by kernel_rfl) (anownS_1_111 hc)
  · exact any_one _ (v := vownS_1_0 z 3) tabok_ownS hoownS_1_3 (trivial) (by kernel_rfl) (by kernel_rfl) (by kernel_rfl) (anownS_1_101 hc)
  · exact any_one _ (v := vownS_1_0 z 10) tabok_ownS hoownS_1_10 (trivial) (by kernel_rfl) (by kernel_rfl) (by kernel_rfl) (anownS_1_115 hc)
theorem anownS_1_117 {z : zownS_1} (hc : cownS_1_0 z) : aownS_1_0 z 9 454 (qownS_1_0 z 454 [(9, .sl 4 0 0)]) (HownS_1_0 z [3]) := by
  refine any_next [0, 3, 9] (by kernel_rfl) (by decide) fun i hi => ?_
  rcases two3 hi with rfl | rfl | rfl
  · exact any_one _ (v := .sl 5 0 0) tabok_ownS hoownS_1_0 (trivial) (by kernel_rfl) (by kernel_rfl) (by kernel_rfl) (anownS_1_112 hc)
  · exact any_one _ (v := vownS_1_0 z 3) tabok_ownS hoownS_1_3 (trivial) (by kernel_rfl) (by kernel_rfl) (by kernel_rfl) (anownS_1_102 hc)
  · exact any_one _ (v := vownS_1_0 z 9) tabok_ownS hoownS_1_9 (trivial) (by kernel_rfl) (by kernel_rfl) (by kernel_rfl) (anownS_1_116 hc)
theorem anownS_1_118 {z : zownS_1} (hc : cownS_1_0 z) : aownS_1_0 z 10 198 (qownS_1_0 z 198 [(9, .sl 4 0 0)]) (HownS_1_0 z [3]) := by
  refine any_next [0, 3, 8] (by kernel_rfl) (by decide) fun i hi => ?_
  rcases two3 hi with rfl | rfl | rfl
  · exact any_one _ (v := .sl 5 0 0) tabok_ownS hoownS_1_0 (trivial) (by kernel_rfl) (by kernel_rfl) (by kernel_rfl) (anownS_1_113 hc)
  · exact any_one _ (v := vownS_1_0 z 3) tabok_ownS hoownS_1_3 (trivial) (by kernel_rfl) (by kernel_rfl) (by kernel_rfl) (anownS_1_103 hc)
  · exact any_one _ (v := vownS_1_0 z 8) tabok_ownS hoownS_1_8 (trivial) (by kernel_rfl) (by kernel_rfl) (by kernel_rfl) (anownS_1_117 hc)
theorem anownS_1_119 {z : zownS_1} (hc : cownS_1_0 z) : aownS_1_0 z 11 70 (qownS_1_0 z 70 [(9, .sl 4 0 0)]) (HownS_1_0 z [3]) := by
  refine any_next [0, 3, 7] (by kernel_rfl) (by decide) fun i hi => ?_
  rcases two3 hi with rfl | rfl | rfl
  · exact any_one _ (v := .sl 5 0 0) tabok_ownS hoownS_1_0 (trivial) (by kernel_rfl) (by kernel_rfl) (by kernel_rfl) (anownS_1_114 hc)
  · exact any_one _ (v := vownS_1_0 z 3) tabok_ownS hoownS_1_3 (trivial) (by kernel_rfl) (by kernel_rfl) (by kernel_rfl) (anownS_1_104 hc)
  · exact any_one _ (v := vownS_1_0 z 7) tabok_ownS hoownS_1_7 (trivial) (by kernel_rfl) (by kernel_rfl) (by kernel_rfl) (anownS_1_118 hc)
theorem anownS_1_120 {z : zownS_1} (hc : cownS_1_0 z) : aownS_1_0 z 8 1926 (qownS_1_0 z 1926 []) (HownS_1_0 z []) := by
  refine any_next [0, 3, 6] (by kernel_rfl) (by decide) fun i hi => ?_
  rcases two3 hi with rfl | rfl | rfl
  · exact any_one _ (v := vownS_1_0 z 0) tabok_ownS hoownS_1_0 (trivial) (by kernel_rfl) (by kernel_rfl) (by kernel_rfl) (anownS_1_47 hc)
  · exact any_one _ (v := vownS_1_0 z 3) tabok_ownS hoownS_1_3 (trivial) (by kernel_rfl) (by kernel_rfl) (by kernel_rfl) (anownS_1_105 hc)
  · exact any_one _ (v := .sl 4 0 0) tabok_ownS hoownS_1_6 (trivial) (by kernel_rfl) (by kernel_rfl) (by kernel_rfl) (anownS_1_115 hc)
theorem anownS_1_121 {z : zownS_1} (hc : cownS_1_0 z) : aownS_1_0 z 9 902 (qownS_1_0 z 902 []) (HownS_1_0 z []) := by
  refine any_next [0, 3, 6, 10] (by kernel_rfl) (by decide) fun i hi => ?_
  rcases two4 hi with rfl | rfl | rfl | rfl
  · exact any_one _ (v := vownS_1_0 z 0) tabok_ownS hoownS_1_0 (trivial) (by kernel_rfl) (by kernel_rfl) (by kernel_rfl) (anownS_1_48 hc)
  · exact any_one _ (v := vownS_1_0 z 3) tabok_ownS hoownS_1_3 (trivial) (by kernel_rfl) (by kernel_rfl) (by kernel_rfl) (anownS_1_106 hc)
  · exact any_one _ (v := .sl 4 0 0) tabok_ownS hoownS_1_6 (trivial) (by kernel_rfl) (by kernel_rfl) (by kernel_rfl) (anownS_1_116 hc)
  · exact any_one _ (v := vownS_1_0 z 10) tabok_ownS hoownS_1_10 (trivial) (by kernel_rfl) (by kernel_rfl) (by kernel_rfl) (anownS_1_120 hc)
theorem anownS_1_122 {z : zownS_1} (hc : cownS_1_0 z) : aownS_1_0 z 10 390 (qownS_1_0 z 390 []) (HownS_1_0 z []) := by
  refine any_next [0, 3, 6, 9] (by kernel_rfl) (by decide) fun i hi => ?_
  rcases two4 hi with rfl | rfl | rfl | rfl
  · exact any_one _ (v := vownS_1_0 z 0) tabok_ownS hoownS_1_0 (trivial) (by kernel_rfl) (by kernel_rfl) (by kernel_rfl) (anownS_1_49 hc)
  · exact any_one _ (v := vownS_1_0 z 3) tabok_ownS hoownS_1_3 (trivial) (by kernel_rfl) (by kernel_rfl) (by kernel_rfl) (anownS_1_107 hc)
  · exact any_one _ (v := .sl 4 0 0) tabok_ownS hoownS_1_6 (trivial) (by kernel_rfl) (by kernel_rfl) (by kernel_rfl) (anownS_1_117 hc)
  · exact any_one _ (v := vownS_1_0 z 9) tabok_ownS hoownS_1_9 (trivial) (by kernel_rfl) (by kernel_rfl) (by kernel_rfl) (anownS_1_121 hc)
theorem anownS_1_123 {z : zownS_1} (hc : cownS_1_0 z) : aownS_1_0 z 11 134 (qownS_1_0 z 134 []) (HownS_1_0 z []) := by
  refine any_next [0, 3, 6, 8] (by kernel_rfl) (by decide) fun i hi => ?_
  rcases two4 hi with rfl | rfl | rfl | rfl
  · exact any_one _ (v := vownS_1_0 z 0) tabok_ownS hoownS_1_0 (trivial) (by kernel_rfl) (by kernel_rfl) (by kernel_rfl) (anownS_1_50 hc)
  · exact any_one _ (v := vownS_1_0 z 3) tabok_ownS hoownS_1_3 (trivial) (by kernel_rfl) (by kernel_rfl) (by kernel_rfl) (anownS_1_108 hc)
  · exact any_one _ (v := .sl 4 0 0) tabok_ownS hoownS_1_6 (trivial) (by kernel_rfl) (by kernel_rfl) (by kernel_rfl) (anownS_1_118 hc)
  · exact any_one _ (v := vownS_1_0 z 8) tabok_ownS hoownS_1_8 (trivial) (by kernel_rfl) (by kernel_rfl) (by kernel_rfl) (anownS_1_122 hc)
theorem anownS_1_124 {z : zownS_1} (hc : cownS_1_0 z) : aownS_1_0 z 12 6 (qownS_1_0 z 6 []) (HownS_1_0 z []) := by
  refine any_next [0, 3, 6, 7] (by kernel_rfl) (by decide) fun i hi => ?_
  rcases two4 hi with rfl | rfl | rfl | rfl
  · exact any_one _ (v := vownS_1_0 z 0) tabok_ownS hoownS_1_0 (trivial) (by kernel_rfl) (by kernel_rfl) (by kernel_rfl) (anownS_1_51 hc)
  · exact any_one _ (v := vownS_1_0 z 3) tabok_ownS hoownS_1_3 (trivial) (by kernel_rfl) (by kernel_rfl) (by kernel_rfl) (anownS_1_109 hc)
  · exact any_one _ (v := .sl 4 0 0) tabok_ownS hoownS_1_6 (trivial) (by kernel_rfl) (by kernel_rfl) (by kernel_rfl) (anownS_1_119 hc)
  · exact any_one _ (v := vownS_1_0 z 7) tabok_ownS hoownS_1_7 (trivial) (by kernel_rfl) (by kernel_rfl) (by kernel_rfl) (anownS_1_123 hc)
theorem anownS_1_125 {z : zownS_1} (hc : cownS_1_0 z) : aownS_1_0 z 7 1987 (qownS_1_0 z 1987 [(3, .sl 5 0 0), (9, .sl 4 0 0)]) (HownS_1_0 z [3, 3]) := by
  refine any_next [2] (by kernel_rfl) (by decide) fun i hi => ?_
  obtain rfl := two1 hi
  · exact any_one _ (v := vownS_1_0 z 2) tabok_ownS hoownS_1_2 (trivial) (by kernel_rfl) (by kernel_rfl) (by kernel_rfl) (anownS_1_110 hc)
theorem anownS_1_126 {z : zownS_1} (hc : cownS_1_0 z) : aownS_1_0 z 8 963 (qownS_1_0 z 963 [(3, .sl 5 0 0), (9, .sl 4 0 0)]) (HownS_1_0 z [3, 3]) := by
  refine any_next [2, 10] (by kernel_rfl) (by decide) fun i hi => ?_
  rcases two2 hi with rfl | rfl
  · exact any_one _ (v := vownS_1_0 z 2) tabok_ownS hoownS_1_2 (trivial) (by kernel_rfl) (by kernel_rfl) (by kernel_rfl) (anownS_1_111 hc)
  · exact any_one _ (v := vownS_1_0 z 10) tabok_ownS hoownS_1_10 (trivial) (by kernel_rfl) (by kernel_rfl) (by kernel_rfl) (anownS_1_125 hc)
theorem anownS_1_127 {z : zownS_1} (hc : cownS_1_0 z) : aownS_1_0 z 9 451 (qownS_1_0 z 451 [(3, .sl 5 0 0), (9, .sl 4 0 0)]) (HownS_1_0 z [3, 3]) := by
  refine any_next [2, 9] (by kernel_rfl) (by decide) fun i hi => ?_
  rcases two2 hi with rfl | rfl
  · exact any_one _ (v := vownS_1_0 z 2) tabok_ownS hoownS_1_2 (trivial) (by kernel_rfl) (by kernel_rfl) (by kernel_rfl) (anownS_1_112 hc)
  · exact any_one _ (v := vownS_1_0 z 9) tabok_ownS hoownS_1_9 (trivial) (by kernel_rfl) (by kernel_rfl) (by kernel_rfl) (anownS_1_126 hc)
theorem anownS_1_128 {z : zownS_1} (hc : cownS_1_0 z) : aownS_1_0 z 10 195 (qownS_1_0 z 195 [(3, .sl 5 0 0), (9, .sl 4 0 0)]) (HownS_1_0 z [3, 3]) := by
  refine any_next [2, 8] (by kernel_rfl) (by decide) fun i hi => ?_
  rcases two2 hi with rfl | rfl
  · exact any_one _ (v := vownS_1_0 z 2) tabok_ownS hoownS_1_2 (trivial) (by kernel_rfl) (by kernel_rfl) (by kernel_rfl) (anownS_1_113 hc)
  · exact any_one _ (v := vownS_1_0 z 8) tabok_ownS hoownS_1_8 (trivial) (by kernel_rfl) (by kernel_rfl) (by kernel_rfl) (anownS_1_127 hc)
theorem anownS_1_129 {z : zownS_1} (hc : cownS_1_0 z) : aownS_1_0 z 11 67 (qownS_1_0 z 67 [(3, .sl 5 0 0), (9, .sl 4 0 0)]) (HownS_1_0 z [3, 3]) := by
  refine any_next [2, 7] (by kernel_rfl) (by decide) fun i hi => ?_
  rcases two2 hi with rfl | rfl
  · exact any_one _ (v := vownS_1_0 z 2) tabok_ownS hoownS_1_2 (trivial) (by kernel_rfl) (by kernel_rfl) (by kernel_rfl) (anownS_1_114 hc)
  · exact any_one _ (v := vownS_1_0 z 7) tabok_ownS hoownS_1_7 (trivial) (by kernel_rfl) (by kernel_rfl) (by kernel_rfl) (anownS_1_128 hc)
theorem anownS_1_130 {z : zownS_1} (hc : cownS_1_0 z) : aownS_1_0 z 8 1986 (qownS_1_0 z 1986 [(9, .sl 4 0 0)]) (HownS_1_0 z [3]) := by
  refine any_next [0, 2] (by kernel_rfl) (by decide) fun i hi => ?_
  rcases two2 hi with rfl | rfl
  · exact any_one _ (v := .sl 5 0 0) tabok_ownS hoownS_1_0 (trivial) (by kernel_rfl) (by kernel_rfl) (by kernel_rfl) (anownS_1_125 hc)
  · exact any_one _ (v := vownS_1_0 z 2) tabok_ownS hoownS_1_2 (trivial) (by kernel_rfl) (by kernel_rfl) (by kernel_rfl) (anownS_1_115 hc)
theorem anownS_1_131 {z : zownS_1} (hc : cownS_1_0 z) : aownS_1_0 z 9 962 (qownS_1_0 z 962 [(9, .sl 4 0 0)]) (HownS_1_0 z [3]) := by
  refine any_next [0, 2, 10] (by kernel_rfl) (by decide) fun i hi => ?_
  rcases two3 hi with rfl | rfl | rfl
  · exact any_one _ (v := .sl 5 0 0) tabok_ownS hoownS_1_0 (trivial) (by kernel_rfl) (by kernel_rfl) (by kernel_rfl) (anownS_1_126 hc)
  · exact any_one _ (v := vownS_1_0 z 2) tabok_ownS hoownS_1_2 (trivial) (by kernel_rfl) (by kernel_rfl) (by kernel_rfl) (anownS_1_116 hc)
  · exact any_one _ (v := vownS_1_0 z 10) tabok_ownS hoownS_1_10 (trivial) (by kernel_rfl) (by kernel_rfl) (by kernel_rfl) (anownS_1_130 hc)
theorem anownS_1_132 {z : zownS_1} (hc : cownS_1_0 z) : aownS_1_0 z 10 450 (qownS_1_0 z 450 [(9, .sl 4 0 0)]) (HownS_1_0 z [3]) := by
  refine any_next [0, 2, 9] (by kernel_rfl) (by decide) fun i hi => ?_
  rcases two3 hi with rfl | rfl | rfl
  · exact any_one _ (v := .sl 5 0 0) tabok_ownS hoownS_1_0 (trivial) (by kernel_rfl) (by kernel_rfl) (by kernel_rfl) (anownS_1_127 hc)
  · exact any_one _ (v := vownS_1_0 z 2) tabok_ownS hoownS_1_2 (trivial) (by kernel_rfl) (by kernel_rfl) (by kernel_rfl) (anownS_1_117 hc)
  · exact any_one _ (v := vownS_1_0 z 9) tabok_ownS hoownS_1_9 (trivial) (by kernel_rfl) (by kernel_rfl) (by kernel_rfl) (anownS_1_131 hc)
theorem anownS_1_133 {z : zownS_1} (hc : cownS_1_0 z) : aownS_1_0 z 11 194 (qownS_1_0 z 194 [(9, .sl 4 0 0)]) (HownS_1_0 z [3]) := by
  refine any_next [0, 2, 8] (by kernel_rfl) (by decide) fun i hi => ?_
  rcases two3 hi with rfl | rfl | rfl
  · exact any_one _ (v := .sl 5 0 0) tabok_ownS hoownS_1_0 (trivial) (by kernel_rfl) (by kernel_rfl) (by kernel_rfl) (anownS_1_128 hc)
  · exact any_one _ (v := vownS_1_0 z 2) tabok_ownS hoownS_1_2 (trivial) (by kernel_rfl) (by kernel_rfl) (by kernel_rfl) (anownS_1_118 hc)
  · exact any_one _ (v := vownS_1_0 z 8) tabok_ownS hoownS_1_8 (trivial) (by kernel_rfl) (by kernel_rfl) (by kernel_rfl) (anownS_1_132 hc)
theorem anownS_1_134 {z : zownS_1} (hc : cownS_1_0 z) : aownS_1_0 z 12 66 (qownS_1_0 z 66 [(9, .sl 4 0 0)]) (HownS_1_0 z [3]) := by
  refine any_next [0, 2, 7] (by kernel_rfl) (by decide) fun i hi => ?_
  rcases two3 hi with rfl | rfl | rfl
  · exact any_one _ (v := .sl 5 0 0) tabok_ownS hoownS_1_0 (trivial) (by kernel_rfl) (by kernel_rfl) (by kernel_rfl) (anownS_1_129 hc)
  · exact any_one _ (v := vownS_1_0 z 2) tabok_ownS hoownS_1_2 (trivial) (by kernel_rfl) (by kernel_rfl) (by kernel_rfl) (anownS_1_119 hc)
  · exact any_one _ (v := vownS_1_0 z 7) tabok_ownS hoownS_1_7 (trivial) (by kernel_rfl) (by kernel_rfl) (by kernel_rfl) (anownS_1_133 hc)
theorem anownS_1_135 {z : zownS_1} (hc : cownS_1_0 z) : aownS_1_0 z 9 1922 (qownS_1_0 z 1922 []) (HownS_1_0 z []) := by
  refine any_next [0, 2, 6] (by kernel_rfl) (by decide) fun i hi => ?_
  rcases two3 hi with rfl | rfl | rfl
  · exact any_one _ (v := vownS_1_0 z 0) tabok_ownS hoownS_1_0 (trivial) (by kernel_rfl) (by kernel_rfl) (by kernel_rfl) (anownS_1_57 hc)
  · exact any_one _ (v := vownS_1_0 z 2) tabok_ownS hoownS_1_2 (trivial) (by kernel_rfl) (by kernel_rfl) (by kernel_rfl) (anownS_1_120 hc)
  · exact any_one _ (v := .sl 4 0 0) tabok_ownS hoownS_1_6 (trivial) (by kernel_rfl) (by kernel_rfl) (by kernel_rfl) (anownS_1_130 hc)
theorem anownS_1_136 {z : zownS_1} (hc : cownS_1_0 z) : aownS_1_0 z 10 898 (qownS_1_0 z 898 []) (HownS_1_0 z []) := by
  refine any_next [0, 2, 6, 10] (by kernel_rfl) (by decide) fun i hi => ?_
  rcases two4 hi with rfl | rfl | rfl | rfl
  · exact any_one _ (v := vownS_1_0 z 0) tabok_ownS hoownS_1_0 (trivial) (by kernel_rfl) (by kernel_rfl) (by kernel_rfl) (anownS_1_58 hc)
  · exact any_one _ (v := vownS_1_0 z 2) tabok_ownS hoownS_1_2 (trivial) (by kernel_rfl) (by kernel_rfl) (by kernel_rfl) (anownS_1_121 hc)
  · exact any_one _ (v := .sl 4 0 0) tabok_ownS hoownS_1_6 (trivial) (by kernel_rfl) (by kernel_rfl) (by kernel_rfl) (anownS_1_131 hc)
  · exact any_one _ (v := vownS_1_0 z 10) tabok_ownS hoownS_1_10 (trivial) (by kernel_rfl) (by kernel_rfl) (by kernel_rfl) (anownS_1_135 hc)
theorem anownS_1_137 {z : zownS_1} (hc : cownS_1_0 z) : aownS_1_0 z 11 386 (qownS_1_0 z 386 []) (HownS_1_0 z []) := by
  refine any_next [0, 2, 6, 9] (by kernel_rfl) (by decide) fun i hi => ?_
  rcases two4 hi with rfl | rfl | rfl | rfl
  · exact any_one _ (v := vownS_1_0 z 0) tabok_ownS hoownS_1_0 (trivial) (by kernel_rfl) (by kernel_rfl) (by kernel_rfl) (anownS_1_59 hc)
  · exact any_one _ (v := vownS_1_0 z 2) tabok_ownS hoownS_1_2 (trivial) (by kernel_rfl) (by kernel_rfl) (by kernel_rfl) (anownS_1_122 hc)
  · exact any_one _ (v := .sl 4 0 0) tabok_ownS hoownS_1_6 (trivial) (by kernel_rfl) (by kernel_rfl) (by kernel_rfl) (anownS_1_132 hc)
  · exact any_one _ (v := vownS_1_0 z 9) tabok_ownS hoownS_1_9 (trivial) (by kernel_rfl) (by kernel_rfl) (by kernel_rfl) (anownS_1_136 hc)
theorem anownS_1_138 {z : zownS_1} (hc : cownS_1_0 z) : aownS_1_0 z 12 130 (qownS_1_0 z 130 []) (HownS_1_0 z []) := by
  refine any_next [0, 2, 6, 8] (by kernel_rfl) (by decide) fun i hi => ?_
  rcases two4 hi with rfl | rfl | rfl | rfl
  · exact any_one _ (v := vownS_1_0 z 0) tabok_ownS hoownS_1_0 (trivial) (by kernel_rfl) (by kernel_rfl) (by kernel_rfl) (anownS_1_60 hc)
  · exact any_one _ (v := vownS_1_0 z 2) tabok_ownS hoownS_1_2 (trivial) (by kernel_rfl) (by kernel_rfl) (by kernel_rfl) (anownS_1_123 hc)
  · exact any_one _ (v := .sl 4 0 0) tabok_ownS hoownS_1_6 (trivial) (by kernel_rfl) (by kernel_rfl) (by kernel_rfl) (anownS_1_133 hc)
  · exact any_one _ (v := vownS_1_0 z 8) tabok_ownS hoownS_1_8 (trivial) (by kernel_rfl) (by kernel_rfl) (by kernel_rfl) (anownS_1_137 hc)
theorem anownS_1_139 {z : zownS_1} (hc : cownS_1_0 z) : aownS_1_0 z 13 2 (qownS_1_0 z 2 []) (HownS_1_0 z []) := by
  refine any_next [0, 2, 6, 7] (by kernel_rfl) (by decide) fun i hi => ?_
  rcases two4 hi with rfl | rfl | rfl | rfl
  · exact any_one _ (v := vownS_1_0 z 0) tabok_ownS hoownS_1_0 (trivial) (by kernel_rfl) (by kernel_rfl) (by kernel_rfl) (anownS_1_61 hc)
  · exact any_one _ (v := vownS_1_0 z 2) tabok_ownS hoownS_1_2 (trivial) (by kernel_rfl) (by kernel_rfl) (by kernel_rfl) (anownS_1_124 hc)
  · exact any_one _ (v := .sl 4 0 0) tabok_ownS hoownS_1_6 (trivial) (by kernel_rfl) (by kernel_rfl) (by kernel_rfl) (anownS_1_134 hc)
  · exact any_one _ (v := vownS_1_0 z 7) tabok_ownS hoownS_1_7 (trivial) (by kernel_rfl) (by kernel_rfl) (by kernel_rfl) (anownS_1_138 hc)
theorem anownS_1_140 {z : zownS_1} (hc : cownS_1_0 z) : aownS_1_0 z 8 1985 (qownS_1_0 z 1985 [(3, .sl 5 0 0), (9, .sl 4 0 0)]) (HownS_1_0 z [3, 3]) := by
  refine any_next [1] (by kernel_rfl) (by decide) fun i hi => ?_
  obtain rfl := two1 hi
  · exact any_one _ (v := vownS_1_0 z 1) tabok_ownS hoownS_1_1 (trivial) (by kernel_rfl) (by kernel_rfl) (by kernel_rfl) (anownS_1_125 hc)
theorem anownS_1_141 {z : zownS_1} (hc : cownS_1_0 z) : aownS_1_0 z 9 961 (qownS_1_0 z 961 [(3, .sl 5 0 0), (9, .sl 4 0 0)]) (HownS_1_0 z [3, 3]) := by
  refine any_next [1, 10] (by kernel_rfl) (by decide) fun i hi => ?_
  rcases two2 hi with rfl | rfl
  · exact any_one _ (v := vownS_1_0 z 1) tabok_ownS hoownS_1_1 (trivial) (by kernel_rfl) (by kernel_rfl) (by kernel_rfl) (anownS_1_126 hc)
  · exact any_one _ (v := vownS_1_0 z 10) tabok_ownS hoownS_1_10 (trivial) (by kernel_rfl) (by kernel_rfl) (by kernel_rfl) (anownS_1_140 hc)
theorem anownS_1_142 {z : zownS_1} (hc : cownS_1_0 z) : aownS_1_0 z 10 449 (qownS_1_0 z 449 [(3, .sl 5 0 0), (9, .sl 4 0 0)]) (HownS_1_0 z [3, 3]) := by
  refine any_next [1, 9] (by kernel_rfl) (by decide) fun i hi => ?_
  rcases two2 hi with rfl | rfl
  · exact any_one _ (v := vownS_1_0 z 1) tabok_ownS hoownS_1_1 (trivial) (by kernel_rfl) (by kernel_rfl) (by kernel_rfl) (anownS_1_127 hc)
  · exact any_one _ (v := vownS_1_0 z 9) tabok_ownS hoownS_1_9 (trivial) (by kernel_rfl) (by kernel_rfl) (by kernel_rfl) (anownS_1_141 hc)
theorem anownS_1_143 {z : zownS_1} (hc : cownS_1_0 z) : aownS_1_0 z 11 193 (qownS_1_0 z 193 [(3, .sl 5 0 0), (9, .sl 4 0 0)]) (HownS_1_0 z [3, 3]) := by
  refine any_next [1, 8] (by kernel_rfl) (by decide) fun i hi => ?_
  rcases two2 hi with rfl | rfl
  · exact any_one _ (v := vownS_1_0 z 1) tabok_ownS hoownS_1_1 (trivial) (by kernel_rfl) (by kernel_rfl) (by kernel_rfl) (anownS_1_128 hc)
  · exact any_one _ (v := vownS_1_0 z 8) tabok_ownS hoownS_1_8 (trivial) (by kernel_rfl) (by kernel_rfl) (by kernel_rfl) (anownS_1_142 hc)
theorem anownS_1_144 {z : zownS_1} (hc : cownS_1_0 z) : aownS_1_0 z 12 65 (qownS_1_0 z 65 [(3, .sl 5 0 0), (9, .sl 4 0 0)]) (HownS_1_0 z [3, 3]) := by
  refine any_next [1, 7] (by kernel_rfl) (by decide) fun i hi => ?_
  rcases two2 hi with rfl | rfl
  · exact any_one _ (v := vownS_1_0 z 1) tabok_ownS hoownS_1_1 (trivial) (by kernel_rfl) (by kernel_rfl) (by kernel_rfl) (anownS_1_129 hc)
  · exact any_one _ (v := vownS_1_0 z 7) tabok_ownS hoownS_1_7 (trivial) (by kernel_rfl) (by kernel_rfl) (by kernel_rfl) (anownS_1_143 hc)
theorem anownS_1_145 {z : zownS_1} (hc : cownS_1_0 z) : aownS_1_0 z 9 1984 (qownS_1_0 z 1984 [(9, .sl 4 0 0)]) (HownS_1_0 z [3]) := by
  refine any_next [0, 1] (by kernel_rfl) (by decide) fun i hi => ?_
  rcases two2 hi with rfl | rfl
  · exact any_one _ (v := .sl 5 0 0) tabok_ownS hoownS_1_0 (trivial) (by kernel_rfl) (by kernel_rfl) (by kernel_rfl) (anownS_1_140 hc)
  · exact any_one _ (v := vownS_1_0 z 1) tabok_ownS hoownS_1_1 (trivial) (by kernel_rfl) (by kernel_rfl) (by kernel_rfl) (anownS_1_130 hc)
theorem anownS_1_146 {z : zownS_1} (hc : cownS_1_0 z) : aownS_1_0 z 10 960 (qownS_1_0 z 960 [(9, .sl 4 0 0)]) (HownS_1_0 z [3]) := by
  refine any_next [0, 1, 10] (by kernel_rfl) (by decide) fun i hi => ?_
  rcases two3 hi with rfl | rfl | rfl
  · exact any_one _ (v := .sl 5 0 0) tabok_ownS hoownS_1_0 (trivial) (by kernel_rfl) (by kernel_rfl) (by kernel_rfl) (anownS_1_141 hc)
  · exact any_one _ (v := vownS_1_0 z 1) tabok_ownS hoownS_1_1 (trivial) (by kernel_rfl) (by kernel_rfl) (by kernel_rfl) (anownS_1_131 hc)
  · exact any_one _ (v := vownS_1_0 z 10) tabok_ownS hoownS_1_10 (trivial) (by kernel_rfl) (by kernel_rfl) (by kernel_rfl) (anownS_1_145 hc)
theorem anownS_1_147 {z : zownS_1} (hc : cownS_1_0 z) : aownS_1_0 z 11 448 (qownS_1_0 z 448 [(9, .sl 4 0 0)]) (HownS_1_0 z [3]) := by
  refine any_next [0, 1, 9] (by kernel_rfl) (by decide) fun i hi => ?_
  rcases two3 hi with rfl | rfl | rfl
  · exact any_one _ (v := .sl 5 0 0) tabok_ownS hoownS_1_0 (trivial) (by kernel_rfl) (by kernel_rfl) (by kernel_rfl) (anownS_1_142 hc)
  · exact any_one _ (v := vownS_1_0 z 1) tabok_ownS hoownS_1_1 (trivial) (by kernel_rfl) (by kernel_rfl) (by kernel_rfl) (anownS_1_132 hc)
  · exact any_one _ (v := vownS_1_0 z 9) tabok_ownS hoownS_1_9 (trivial) (by kernel_rfl) (by kernel_rfl) (by kernel_rfl) (anownS_1_146 hc)
theorem anownS_1_148 {z : zownS_1} (hc : cownS_1_0 z) : aownS_1_0 z 12 192 (qownS_1_0 z 192 [(9, .sl 4 0 0)]) (HownS_1_0 z [3]) := by
  refine any_next [0, 1, 8] (by kernel_rfl) (by decide) fun i hi => ?_
  rcases two3 hi with rfl | rfl | rfl
  · exact any_one _ (v := .sl 5 0 0) tabok_ownS hoownS_1_0 (trivial) (by kernel_rfl) (by kernel_rfl) (by kernel_rfl) (anownS_1_143 hc)
  · exact any_one _ (v := vownS_1_0 z 1) tabok_ownS hoownS_1_1 (trivial) (by kernel_rfl) (by kernel_rfl) (by kernel_rfl) (anownS_1_133 hc)
  · exact any_one _ (v := vownS_1_0 z 8) tabok_ownS hoownS_1_8 (trivial) (by kernel_rfl) (by kernel_rfl) (by kernel_rfl) (anownS_1_147 hc)
theorem anownS_1_149 {z : zownS_1} (hc : cownS_1_0 z) : aownS_1_0 z 13 64 (qownS_1_0 z 64 [(9, .sl 4 0 0)]) (HownS_1_0 z [3]) := by
  refine any_next [0, 1, 7] (by kernel_rfl) (by decide) fun i hi => ?_
  rcases two3 hi with rfl | rfl | rfl
  · exact any_one _ (v := .sl 5 0 0) tabok_ownS hoownS_1_0 (trivial) (by kernel_rfl) (by kernel_rfl) (by kernel_rfl) (anownS_1_144 hc)
  · exact any_one _ (v := vownS_1_0 z 1) tabok_ownS hoownS_1_1 (trivial) (by kernel_rfl) (by kernel_rfl) (by kernel_rfl) (anownS_1_134 hc)
  · exact any_one _ (v := vownS_1_0 z 7) tabok_ownS hoownS_1_7 (trivial) (by kernel_rfl) (by kernel_rfl) (by kernel_rfl) (anownS_1_148 hc)
theorem anownS_1_150 {z : zownS_1} (hc : cownS_1_0 z) : aownS_1_0 z 10 1920 (qownS_1_0 z 1920 []) (HownS_1_0 z []) := by
  refine any_next [0, 1, 6] (by kernel_rfl) (by decide) fun i hi => ?_
  rcases two3 hi with rfl | rfl | rfl
  · exact any_one _ (v := vownS_1_0 z 0) tabok_ownS hoownS_1_0 (trivial) (by kernel_rfl) (by kernel_rfl) (by kernel_rfl) (anownS_1_67 hc)
  · exact any_one _ (v := vownS_1_0 z 1) tabok_ownS hoownS_1_1 (trivial) (by kernel_rfl) (by kernel_rfl) (by kernel_rfl) (anownS_1_135 hc)
  · exact any_one _ (v := .sl 4 0 0) tabok_ownS hoownS_1_6 (trivial) (by kernel_rfl) (by kernel_rfl) (by kernel_rfl) (anownS_1_145 hc)
theorem anownS_1_151 {z : zownS_1} (hc : cownS_1_0 z) : aownS_1_0 z 11 896 (qownS_1_0 z 896 []) (HownS_1_0 z []) := by
  refine any_next [0, 1, 6, 10] (by kernel_rfl) (by decide) fun i hi => ?_
  rcases two4 hi with rfl | rfl | rfl | rfl
  · exact any_one _ (v := vownS_1_0 z 0) tabok_ownS hoownS_1_0 (trivial) (by kernel_rfl) (by kernel_rfl) (by kernel_rfl) (anownS_1_68 hc)
  · exact any_one _ (v := vownS_1_0 z 1) tabok_ownS hoownS_1_1 (trivial) (by kernel_rfl) (by kernel_rfl) (by kernel_rfl) (anownS_1_136 hc)
  · exact any_one _ (v := .sl 4 0 0) tabok_ownS hoownS_1_6 (trivial) (by kernel_rfl) (by kernel_rfl) (by kernel_rfl) (anownS_1_146 hc)
  · exact any_one _ (v := vownS_1_0 z 10) tabok_ownS hoownS_1_10 (trivial) (by kernel_rfl) (by kernel_rfl) (by kernel_rfl) (anownS_1_150 hc)
theorem anownS_1_152 {z : zownS_1} (hc : cownS_1_0 z) : aownS_1_0 z 12 384 (qownS_1_0 z 384 []) (HownS_1_0 z []) := by
  refine any_next [0, 1, 6, 9] (by kernel_rfl) (by decide) fun i hi => ?_
  rcases two4 hi with rfl | rfl | rfl | rfl
  · exact any_one _ (v := vownS_1_0 z 0) tabok_ownS hoownS_1_0 (trivial) (by kernel_rfl) (by kernel_rfl) (by kernel_rfl) (anownS_1_69 hc)
  · exact any_one _ (v := vownS_1_0 z 1) tabok_ownS hoownS_1_1 (trivial) (by kernel_rfl) (by kernel_rfl) (by kernel_rfl) (anownS_1_137 hc)
  · exact any_one _ (v := .sl 4 0 0) tabok_ownS hoownS_1_6 (trivial) (by kernel_rfl) (by kernel_rfl) (by kernel_rfl) (anownS_1_147 hc)
  · exact any_one _ (v := vownS_1_0 z 9) tabok_ownS hoownS_1_9 (trivial) (by kernel_rfl) (by kernel_rfl) (by kernel_rfl) (anownS_1_151 hc)
theorem anownS_1_153 {z : zownS_1} (hc : cownS_1_0 z) : aownS_1_0 z 13 128 (qownS_1_0 z 128 []) (HownS_1_0 z []) := by
  refine any_next [0, 1, 6, 8] (by kernel_rfl) (by decide) fun i hi => ?_
  rcases two4 hi with rfl | rfl | rfl | rfl
  · exact any_one _ (v := vownS_1_0 z 0) tabok_ownS hoownS_1_0 (trivial) (by kernel_rfl) (by kernel_rfl) (by kernel_rfl) (anownS_1_70 hc)
  · exact any_one _ (v := vownS_1_0 z 1) tabok_ownS hoownS_1_1 (trivial) (by kernel_rfl) (by kernel_rfl) (by kernel_rfl) (anownS_1_138 hc)
  · exact any_one _ (v := .sl 4 0 0) tabok_ownS hoownS_1_6 (trivial) (by kernel_rfl) (by kernel_rfl) (by kernel_rfl) (anownS_1_148 hc)
  · exact any_one _ (v := vownS_1_0 z 8) tabok_ownS hoownS_1_8 (trivial) (by kernel_rfl) (by kernel_rfl) (by kernel_rfl) (anownS_1_152 hc)
theorem anownS_1_154 {z : zownS_1} (hc : cownS_1_0 z) : aownS_1_0 z 14 0 (qownS_1_0 z 0 []) (HownS_1_0 z []) := by
  refine any_next [0, 1, 6, 7] (by kernel_rfl) (by decide) fun i hi => ?_
  rcases two4 hi with rfl | rfl | rfl | rfl
  · exact any_one _ (v := vownS_1_0 z 0) tabok_ownS hoownS_1_0 (trivial) (by kernel_rfl) (by kernel_rfl) (by kernel_rfl) (anownS_1_71 hc)
  · exact any_one _ (v := vownS_1_0 z 1) tabok_ownS hoownS_1_1 (trivial) (by kernel_rfl) (by kernel_rfl) (by kernel_rfl) (anownS_1_139 hc)
  · exact any_one _ (v := .sl 4 0 0) tabok_ownS hoownS_1_6 (trivial) (by kernel_rfl) (by kernel_rfl) (by kernel_rfl) (anownS_1_149 hc)
  · exact any_one _ (v := vownS_1_0 z 7) tabok_ownS hoownS_1_7 (trivial) (by kernel_rfl) (by kernel_rfl) (by kernel_rfl) (anownS_1_153 hc)
theorem tolownS_1_0 (z2 : Bool) (z4 : Nat) (z6 : Nat) (z7 : Bool) (z8 : List Nat) (z9 : Bool) (z10 : List Nat) (hc : cownS_1_0 (z2, z4, z6, z7, z8, z9, z10)) {st : St} (hl : st.t.length = 16) (et : viewT [0, 2] 16 st.t = (.ptr 0 0 :: .any :: .ptr 3 0 :: (anys 13 []))) (eh : st.h = [.at z2 (.as 1 [.sl 1 0 z4, .sl 2 0 z6]), .at z7 (.fl .f32 z8), .at z9 (.fl .f32 z10), .at true (.as 1 [.nil, .nil])]) {μ0 : Mu} {h0 : H} {w0 : World} {Q : Exit → Act → World → Prop} (hQ : ∀ μ a w, Inv μ0 h0 w0 μ (⟨(.any :: .any :: .ptr 3 0 :: (anys 13 [])), [.at z2 (.as 1 [.sl 1 0 z4, .sl 2 0 z6]), .at z7 (.fl .f32 z8), .at z9 (.fl .f32 z10), .at true (.as 1 [.sl 4 0 (0 + z4), .sl 5 0 (0 + z6)]), .at true (.fl .f32 (([] : List Nat) ++ ((z8.drop 0).take (z4 * 1)))), .at true (.fl .f32 (([] : List Nat) ++ ((z10.drop 0).take (z6 * 1))))]⟩ : St) a w → Q .normal a w) {μ : Mu} {a : Act} {w : World} (hi : Inv μ0 h0 w0 μ st a w) : (Code.region 1 opsownS_1 true).wp Try.prog Q a w :=
  told (L0 := bitsA 14 0) (T0 := qownS_1_0 (z2, z4, z6, z7, z8, z9, z10) 0 []) (H0 := HownS_1_0 (z2, z4, z6, z7, z8, z9, z10) []) [2] mixed (by kernel_rfl : opsownS_1.size = 14) (by kernel_rfl) hl (et.trans (by kernel_rfl)) (eh.trans (by kernel_rfl)) rfl (anownS_1_154 hc) hQ hi
set_option maxRecDepth 100000 in
theorem sndownS_1 : GSound1 Try.prog 1 opsownS_1 true gownS_1 := by
  intro μ0 h0 w0 st st' hg Q hQ μ a w hi
  unfold gownS_1 at hg
  split at hg
  case h_2 => cases hg
  rename_i hl_
  have hl_ := of_decide_eq_true hl_
  split at hg
  case h_2 => cases hg
  rename_i e0_
  split at hg
  case h_2 => cases hg
  rename_i e2_
  split at hg
  case h_2 => cases hg
  rename_i z2 z4 z6 z7 z8 z9 z10 eh_
  have hg := Option.some.inj hg
  have hc := congrArg Prod.fst hg
  have hg := congrArg Prod.snd hg
  dsimp only at hc hg
  subst hg
  obtain ⟨hc, hc3⟩ := Bool.and_eq_true_iff.mp hc
  obtain ⟨hc, hc2⟩ := Bool.and_eq_true_iff.mp hc
  obtain ⟨hc, hc1⟩ := Bool.and_eq_true_iff.mp hc
  have hc0 := hc
  exact tolownS_1_0 z2 z4 z6 z7 z8 z9 z10 ⟨hc0, hc1, hc2, hc3⟩ hl_ ((view_congr (T0 := (.ptr 0 0 :: .any :: .ptr 3 0 :: (anys 13 []))) (fun i hi => by
    simp only [List.mem_cons, List.not_mem_nil, or_false] at hi
    rcases hi with rfl | rfl
    · exact e0_.trans rfl
    · exact e2_.trans rfl)).trans (by kernel_rfl)) eh_ hQ hi
noncomputable def gs_ownS : GsA := fun i => if i = 1 then some (tu1 gownS_1) else none
theorem regs_ownS : (regList (codeOf Try.f15)).filter (fun p => (gs_ownS p.1).isSome) = [(1, opsownS_1, true)] := by kernel_rfl
theorem regOk_ownS : RegOkA Try.prog gs_ownS (codeOf Try.f15) := by
  refine regOk_list _ fun p hp g hg => ?_
  have h : p ∈ (regList (codeOf Try.f15)).filter (fun p => (gs_ownS p.1).isSome) := List.mem_filter.2 ⟨hp, by rw [hg]; rfl⟩
  rw [regs_ownS] at h
  simp only [List.mem_cons, List.not_mem_nil, or_false] at h
  rcases h with rfl
  · cases hg; exact tu1_snd sndownS_1
theorem run_ownS (N : Nat) (r : Bool) (n : Nat) (m : Nat) (r0 : Bool) (l0 : List Nat) (r1 : Bool) (l1 : List Nat) : runA ty tab_ownS ann0 gs_ownS N Try.f15 [.ptr 0 0] [.at r (.as 1 [.sl 1 0 n, .sl 2 0 m]), .at r0 (.fl .f32 l0), .at r1 (.fl .f32 l1)]
    = (match (decide (0 + n * 1 ≤ l0.length)) && (apok true 0 1 0 1 (0 + n) 4) && (decide (0 + m * 1 ≤ l1.length)) && (apok true 0 1 0 1 (0 + m) 4) with | true => some (.g [.sl 3 0 (0 + n), .sl 4 0 (0 + m)], [.at r (.as 1 [.sl 1 0 n, .sl 2 0 m]), .at r0 (.fl .f32 l0), .at r1 (.fl .f32 l1), .at true (.fl .f32 (([] : List Nat) ++ ((l0.drop 0).take (n * 1)))), .at true (.fl .f32 (([] : List Nat) ++ ((l1.drop 0).take (m * 1))))]) | false => none) := by
  kernel_rfl
theorem ok_ownS : FnT Try.prog 15 gOwn := by
  refine fnA_ok tyOk tabok_ownS mixed Try.func15 rfl rfl ann0 gs_ownS regOk_ownS fun vs h v h' e => ⟨0, ?_⟩
  unfold gOwn at e
  split at e
  case h_2 => exact (T.no_inv e).elim
  rename_i r n m r0 l0 r1 l1
  obtain ⟨hd, e⟩ := T.pre_inv e
  obtain ⟨rfl, rfl⟩ := T.ret_inv e
  obtain ⟨rfl, hb, rfl, hb2⟩ := of_decide_eq_true hd
  refine Eq.trans (run_ownS 0 r l0.length l1.length r0 l0 r1 l1) ?_
  have hap : ∀ q : Nat, q < 2147483648 → apok true 0 1 0 1 (0 + q) 4 = true := fun q hq => by
    unfold apok boundB
    rw [decide_eq_true (show 0 * 1 = 0 ∧ 1 = 1 from ⟨rfl, rfl⟩), decide_eq_true (show 0 + q ≤ 9223372036854775807 ∧ (0 + q) * 4 ≤ 140737488355328 by omega)]
    rfl
  rw [decide_eq_true (show 0 + l0.length * 1 ≤ l0.length by omega), hap _ hb, decide_eq_true (show 0 + l1.length * 1 ≤ l1.length by omega), hap _ hb2]
  simp only [Nat.zero_add, Nat.mul_one, List.drop_zero, List.take_length, List.nil_append]
  rfl
def tab_gvS : Fns := tabT [(12, gIs)]
theorem tabok_gvS : ∀ f, FnT Try.prog f (tab_gvS f) := (tabT_cons (k := 12) ok_isS tabT_nil)
theorem run_gvS (N : Nat) (n : Nat) (m : Nat) (r0 : Bool) (l0 : List Nat) (r1 : Bool) (l1 : List Nat) : run ty tab_gvS ann0 N Try.f29 [.g [.sl 0 0 n, .sl 1 0 m]] [.at r0 (.fl .f32 l0), .at r1 (.fl .f32 l1)]
    = (match decide (l0.length = n ∧ n < 2147483648 ∧ l1.length = m ∧ m < 2147483648) with | true => (match !(vsB l0 l1) with | true => some (.tup [.g [.nil, .nil], .a (.bool false)], [.at r0 (.fl .f32 l0), .at r1 (.fl .f32 l1)]) | false => some (.tup [.g [.sl 0 0 n, .sl 1 0 m], .a (.bool true)], [.at r0 (.fl .f32 l0), .at r1 (.fl .f32 l1)])) | false => none) := by
  kernel_rfl
theorem ok_gvS : FnT Try.prog 29 gGive := by
  refine fnT tabok_gvS Try.func29 rfl rfl ann0 fun vs h v h' ee => ⟨0, ?_⟩
  unfold gGive at ee
  split at ee
  case h_2 => exact (T.no_inv ee).elim
  rename_i n m r0 l0 r1 l1
  obtain ⟨hd, e2⟩ := T.pre_inv ee
  refine Eq.trans (run_gvS 0 n m r0 l0 r1 l1) (Eq.trans ?_ e2)
  rw [hd]
  clear ee e2 hd
  rw [T.run_ite, T.run_ret, T.run_ret]
  cases vsB l0 l1 <;> rfl
def tab_gvI : Fns := tabT [(18, gVs)]
theorem tabok_gvI : ∀ f, FnT Try.prog f (tab_gvI f) := (tabT_cons (k := 18) ok_vsI tabT_nil)
theorem run_gvI (N : Nat) (n : Nat) (m : Nat) (r0 : Bool) (l0 : List Nat) (r1 : Bool) (l1 : List Nat) : run ty tab_gvI ann0 N Try.f35 [.g [.sl 0 0 n, .sl 1 0 m]] [.at r0 (.fl .f32 l0), .at r1 (.fl .f32 l1)]
    = (match decide (l0.length = n ∧ n < 2147483648 ∧ l1.length = m ∧ m < 2147483648) with | true => (match !(vsB l0 l1) with | true => some (.tup [.g [.nil, .nil], .a (.bool false)], [.at r0 (.fl .f32 l0), .at r1 (.fl .f32 l1)]) | false => some (.tup [.g [.sl 0 0 n, .sl 1 0 m], .a (.bool true)], [.at r0 (.fl .f32 l0), .at r1 (.fl .f32 l1)])) | false => none) := by
  kernel_rfl
theorem ok_gvI : FnT Try.prog 35 gGive := by
  refine fnT tabok_gvI Try.func35 rfl rfl ann0 fun vs h v h' ee => ⟨0, ?_⟩
  unfold gGive at ee
  split at ee
  case h_2 => exact (T.no_inv ee).elim
  rename_i n m r0 l0 r1 l1
  obtain ⟨hd, e2⟩ := T.pre_inv ee
  refine Eq.trans (run_gvI 0 n m r0 l0 r1 l1) (Eq.trans ?_ e2)
  rw [hd]
  clear ee e2 hd
  rw [T.run_ite, T.run_ret, T.run_ret]
  cases vsB l0 l1 <;> rfl
def gCat : GT := fun vs h => match vs, h with
  | [.sl 0 0 2], [.at r (.as 1 [.sl 1 0 n, .sl 2 o m]), .at r0 (.fl .f32 l0), .at r1 (.fl .f32 l1)] => .ite (decide (l0.length = n ∧ o + m ≤ l1.length ∧ 0 < n ∧ n < 1000 ∧ m < 1000)) (.ret (.sl 3 0 (n + m)) [.at r (.as 1 [.sl 1 0 n, .sl 2 o m]), .at r0 (.fl .f32 l0), .at r1 (.fl .f32 l1), .at true (.fl .f32 (l0 ++ (l1.drop o).take m))]) .no
  | _, _ => .no
def tab_catI : Fns := tabT [(42, gGrow)]
theorem tabok_catI : ∀ f, FnT Try.prog f (tab_catI f) := (tabT_cons (k := 42) ok_grow tabT_nil)
theorem run_catI (N : Nat) (r : Bool) (n : Nat) (o : Nat) (m : Nat) (r0 : Bool) (l0 : List Nat) (r1 : Bool) (l1 : List Nat) : run ty tab_catI ann0 (N + 3) Try.f34 [.sl 0 0 2] [.at r (.as 1 [.sl 1 0 n, .sl 2 o m]), .at r0 (.fl .f32 l0), .at r1 (.fl .f32 l1)]
    = (match decide ((IntKind.i64.wrap (0 + ((n : Nat) : Int)) : Int) < 0) with | true => none | false => (match decide ((IntKind.i64.wrap ((IntKind.i64.wrap (0 + ((n : Nat) : Int))) + ((m : Nat) : Int)) : Int) < 0) with | true => none | false => (match decide (0 < IntKind.i64.wrap ((IntKind.i64.wrap (0 + ((n : Nat) : Int))) + ((m : Nat) : Int)) ∧ IntKind.i64.wrap ((IntKind.i64.wrap (0 + ((n : Nat) : Int))) + ((m : Nat) : Int)) ≤ 1000000) with | true => (match decide (0 + n * 1 ≤ l0.length) with | true => (match apok true 0 1 0 1 (0 + n) 4 with | true => (match decide (o + m * 1 ≤ l1.length) with | true => (match apok true (0 + n) 1 ((([] : List Nat) ++ ((l0.drop 0).take (n * 1))).length) 1 (0 + n + m) 4 with | true => some (.sl 3 0 (0 + n + m), [.at r (.as 1 [.sl 1 0 n, .sl 2 o m]), .at r0 (.fl .f32 l0), .at r1 (.fl .f32 l1), .at true (.fl .f32 ((([] : List Nat) ++ ((l0.drop 0).take (n * 1))) ++ ((l1.drop o).take (m * 1))))]) | false => none) | false => none) | false => none) | false => none) | false => none))) := by
  kernel_rfl
theorem ok_catI : FnT Try.prog 34 gCat := by
  refine fnT tabok_catI Try.func34 rfl rfl ann0 fun vs h v h' e => ⟨3, ?_⟩
  unfold gCat at e
  split at e
  case h_2 => exact (T.no_inv e).elim
  rename_i r n o m r0 l0 r1 l1
  obtain ⟨hd, e⟩ := T.pre_inv e
  obtain ⟨rfl, rfl⟩ := T.ret_inv e
  obtain ⟨rfl, hb, h0, h1, h2⟩ := of_decide_eq_true hd
  refine Eq.trans (run_catI 0 r l0.length o m r0 l0 r1 l1) ?_
  have w1 : IntKind.i64.wrap (0 + ((l0.length : Nat) : Int)) = ((l0.length : Nat) : Int) := by rw [wrap_z (by omega) (by omega)]; omega
  have w2 : IntKind.i64.wrap (((l0.length : Nat) : Int) + ((m : Nat) : Int)) = ((l0.length + m : Nat) : Int) := by rw [wrap_z (by omega) (by omega)]; omega
  have hap : ∀ q : Nat, q < 2147483648 → apok true 0 1 0 1 (0 + q) 4 = true := fun q hq => by
    unfold apok boundB
    rw [decide_eq_true (show 0 * 1 = 0 ∧ 1 = 1 from ⟨rfl, rfl⟩), decide_eq_true (show 0 + q ≤ 9223372036854775807 ∧ (0 + q) * 4 ≤ 140737488355328 by omega)]
    rfl
  rw [w1, w2, decide_eq_false (show ¬ ((l0.length : Nat) : Int) < 0 by omega), decide_eq_false (show ¬ ((l0.length + m : Nat) : Int) < 0 by omega), decide_eq_true (show 0 < ((l0.length + m : Nat) : Int) ∧ ((l0.length + m : Nat) : Int) ≤ 1000000 by omega)]
  rw [decide_eq_true (show 0 + l0.length * 1 ≤ l0.length by omega), hap _ (by omega), decide_eq_true (show o + m * 1 ≤ l1.length by omega)]
  simp only [Nat.zero_add, Nat.mul_one, List.drop_zero, List.take_length, List.nil_append]
  have hap2 : apok true l0.length 1 l0.length 1 (l0.length + m) 4 = true := by
    unfold apok boundB
    rw [decide_eq_true (show l0.length * 1 = l0.length ∧ 1 = 1 from ⟨Nat.mul_one _, rfl⟩), decide_eq_true (show l0.length + m ≤ 9223372036854775807 ∧ (l0.length + m) * 4 ≤ 140737488355328 by omega)]
    rfl
  rw [hap2]
def gSa1 : GT := fun vs h => match vs, h with
  | [.sl 0 0 1, .sl 0 o q], [.at rw (.fl .f32 l)] => .ite (decide (q = 1 ∧ o < l.length ∧ l.getD 0 0 < 4294967296 ∧ l.getD o 0 < 4294967296)) (.ret (.bool (sN (l.getD 0 0) (l.getD o 0))) [.at rw (.fl .f32 l)]) .no
  | [.sl 0 0 1, .sl 1 0 1], [.at r0 (.fl .f32 [a]), .at r1 (.fl .f32 [b])] => .ite (decide (a < 4294967296 ∧ b < 4294967296)) (.ret (.bool (sN a b)) [.at r0 (.fl .f32 [a]), .at r1 (.fl .f32 [b])]) .no
  | _, _ => .no
def tab_saA : Fns := tabT [(27, gSN)]
theorem tabok_saA : ∀ f, FnT Try.prog f (tab_saA f) := (tabT_cons (k := 27) ok_l01Same tabT_nil)
theorem run_saA (N : Nat) (o : Nat) (rw : Bool) (l : List Nat) : run ty tab_saA ann0 (N + 3) Try.f14 [.sl 0 0 1, .sl 0 o 1] [.at rw (.fl .f32 l)]
    = (match l[0]? with | some e1 => (match l[o + 0]? with | some e2 => (match decide (e1 < 4294967296 ∧ e2 < 4294967296) with | true => (match !(sN e1 e2) with | true => some (.bool false, [.at rw (.fl .f32 l)]) | false => some (.bool true, [.at rw (.fl .f32 l)])) | false => none) | none => none) | none => none) := by
  kernel_rfl
def tab_saB : Fns := tabT [(27, gSN)]
theorem tabok_saB : ∀ f, FnT Try.prog f (tab_saB f) := (tabT_cons (k := 27) ok_l01Same tabT_nil)
theorem run_saB (N : Nat) (r0 : Bool) (a : Nat) (r1 : Bool) (b : Nat) : run ty tab_saB ann0 (N + 3) Try.f14 [.sl 0 0 1, .sl 1 0 1] [.at r0 (.fl .f32 [a]), .at r1 (.fl .f32 [b])]
    = (match decide (a < 4294967296 ∧ b < 4294967296) with | true => (match !(sN a b) with | true => some (.bool false, [.at r0 (.fl .f32 [a]), .at r1 (.fl .f32 [b])]) | false => some (.bool true, [.at r0 (.fl .f32 [a]), .at r1 (.fl .f32 [b])])) | false => none) := by
  kernel_rfl
theorem ok_sa1 : FnT Try.prog 14 gSa1 := by
  intro vs hp v h' e
  unfold gSa1 at e
  split at e
  · rename_i o q rw l
    obtain ⟨hd, e⟩ := T.pre_inv e
    obtain ⟨rfl, rfl⟩ := T.ret_inv e
    obtain ⟨rfl, ho, h1, h2⟩ := of_decide_eq_true hd
    refine FnT.runs tabok_saA Try.func14 rfl rfl ann0 3 _ _ _ _ ?_
    rw [T.run_of]
    refine Eq.trans (run_saA 0 o rw l) ?_
    rw [getD_some' (show 0 < l.length by omega), Nat.add_zero, getD_some' ho]
    dsimp only
    rw [decide_eq_true (show l.getD 0 0 < 4294967296 ∧ l.getD o 0 < 4294967296 from ⟨h1, h2⟩)]
    cases sN (l.getD 0 0) (l.getD o 0) <;> rfl
  · rename_i r0 a r1 b
    obtain ⟨hd, e⟩ := T.pre_inv e
    obtain ⟨rfl, rfl⟩ := T.ret_inv e
    refine FnT.runs tabok_saB Try.func14 rfl rfl ann0 3 _ _ _ _ ?_
    rw [T.run_of]
    refine Eq.trans (run_saB 0 r0 a r1 b) ?_
    rw [hd]
    cases sN a b <;> rfl
  · exact (T.no_inv e).elim
end Go.Proofs.Ythjncajdognojaa.Ab

namespace Go.Proofs.Ythjncajdognojaa.Ab
set_option linter.unusedVariables false
set_option linter.unusedSimpArgs false
open Go
def an_jnI : Ann := ⟨fun r => if r = 6 then some ([6, 8, 9, 84, 85, 86], [6, 9]) else none, fun _ _ => .quiet⟩
noncomputable def tab_jnI : Fns := tabT [(18, gVs), (33, gT (gF1 finB)), (20, gSN), (21, gClo), (34, gCat), (35, gGive)]
theorem tabok_jnI : ∀ f, FnT Try.prog f (tab_jnI f) := (tabT_cons (k := 18) ok_vsI (tabT_cons (k := 33) ok_IsFinite (tabT_cons (k := 20) ok_SameNumber (tabT_cons (k := 21) ok_cloI (tabT_cons (k := 34) ok_catI (tabT_cons (k := 35) ok_gvI tabT_nil))))))
noncomputable def opsjnI_4 : Array Oper := (regAt (codeOf Try.f22) 4).getD #[]
def gjnI_4 (st : St) : Option (Bool × St) := (match decide (st.t.length = 103) with | true => (match nth st.t 3 with | .ptr 4 0 => (match nth st.t 4 with | .ptr 5 0 => (match nth st.t 6 with | .ptr 6 0 => (match nth st.t 8 with | .fl .f32 z3 => (match st.h with | [.at z4 (.fl .f32 z5), .at z6 (.fl .f32 z7), .at z8 (.fl .f32 z9), .at z10 (.fl .f32 z11), .at true (.as 1 [.sl 0 0 z13, .sl 1 0 z15]), .at true (.as 1 [.sl 2 0 z17, .sl 3 0 z19]), .at true (.as 1 [.nil, .nil])] => some ((decide (z5.length = z13 ∧ 1 ≤ z13 ∧ z13 < 2147483648)) && (decide (0 ≤ (1 : Int) ∧ (1 : Int) ≤ ((z19 : Nat) : Int) ∧ (((z19 : Nat) : Int) : Int) ≤ ((z19 : Nat) : Int))) && (decide (z7.length = z15 ∧ 1 + ((((z19 : Nat) : Int) - 1).toNat) ≤ z11.length ∧ 0 < z15 ∧ z15 < 1000 ∧ (((z19 : Nat) : Int) - 1).toNat < 1000)), ⟨(.any :: .any :: .any :: .any :: .ptr 5 0 :: .any :: .ptr 6 0 :: .any :: .fl .f32 z3 :: .ptr 7 0 :: (anys 93 [])), [.at z4 (.fl .f32 z5), .at z6 (.fl .f32 z7), .at z8 (.fl .f32 z9), .at z10 (.fl .f32 z11), .at true (.as 1 [.sl 0 0 z13, .sl 1 0 z15]), .at true (.as 1 [.sl 2 0 z17, .sl 3 0 z19]), .at true (.as 1 [.nil, .nil]), .at true (.as 1 [.sl 8 0 z13, .sl 9 0 (z15 + ((((z19 : Nat) : Int) - 1).toNat))]), .at true (.fl .f32 z5), .at true (.fl .f32 (z7 ++ (z11.drop 1).take ((((z19 : Nat) : Int) - 1).toNat)))]⟩) | _ => none) | _ => none) | _ => none) | _ => none) | _ => none) | false => none)
abbrev zjnI_4 := Nat × Bool × List Nat × Bool × List Nat × Bool × List Nat × Bool × List Nat × Nat × Nat × Nat × Nat
abbrev yjnI_40 (z : zjnI_4) : Nat := z.1
abbrev yjnI_41 (z : zjnI_4) : Bool := z.2.1
abbrev yjnI_42 (z : zjnI_4) : List Nat := z.2.2.1
abbrev yjnI_43 (z : zjnI_4) : Bool := z.2.2.2.1
abbrev yjnI_44 (z : zjnI_4) : List Nat := z.2.2.2.2.1
abbrev yjnI_45 (z : zjnI_4) : Bool := z.2.2.2.2.2.1
abbrev yjnI_46 (z : zjnI_4) : List Nat := z.2.2.2.2.2.2.1
abbrev yjnI_47 (z : zjnI_4) : Bool := z.2.2.2.2.2.2.2.1
abbrev yjnI_48 (z : zjnI_4) : List Nat := z.2.2.2.2.2.2.2.2.1
abbrev yjnI_49 (z : zjnI_4) : Nat := z.2.2.2.2.2.2.2.2.2.1
abbrev yjnI_410 (z : zjnI_4) : Nat := z.2.2.2.2.2.2.2.2.2.2.1
abbrev yjnI_411 (z : zjnI_4) : Nat := z.2.2.2.2.2.2.2.2.2.2.2.1
abbrev yjnI_412 (z : zjnI_4) : Nat := z.2.2.2.2.2.2.2.2.2.2.2.2
def sjnI_4 (z : zjnI_4) : List V := (.any :: .any :: .any :: .ptr 4 0 :: .ptr 5 0 :: .any :: .ptr 6 0 :: .any :: .fl .f32 (yjnI_40 z) :: (anys 94 []))
def hjnI_4 (z : zjnI_4) : H := [.at (yjnI_41 z) (.fl .f32 (yjnI_42 z)), .at (yjnI_43 z) (.fl .f32 (yjnI_44 z)), .at (yjnI_45 z) (.fl .f32 (yjnI_46 z)), .at (yjnI_47 z) (.fl .f32 (yjnI_48 z)), .at true (.as 1 [.sl 0 0 (yjnI_49 z), .sl 1 0 (yjnI_410 z)]), .at true (.as 1 [.sl 2 0 (yjnI_411 z), .sl 3 0 (yjnI_412 z)]), .at true (.as 1 [.nil, .nil])]
theorem hojnI_4_0 : (opsjnI_4[0]?).map opD3 = some (.fieldAddr 26 (.tmp 3) 0, some 72, none) := by kernel_rfl
theorem hojnI_4_1 : (opsjnI_4[1]?).map opD3 = some (.load 22 (.tmp 72), some 73, none) := by kernel_rfl
theorem hojnI_4_2 : (opsjnI_4[2]?).map opD3 = some (.call ⟨.value (.func 21), #[.tmp 73], #[22]⟩, some 74, none) := by kernel_rfl
theorem hojnI_4_3 : (opsjnI_4[3]?).map opD3 = some (.fieldAddr 26 (.tmp 3) 1, some 75, none) := by kernel_rfl
theorem hojnI_4_4 : (opsjnI_4[4]?).map opD3 = some (.load 22 (.tmp 75), some 76, none) := by kernel_rfl
theorem hojnI_4_5 : (opsjnI_4[5]?).map opD3 = some (.fieldAddr 26 (.tmp 4) 1, some 77, none) := by kernel_rfl
theorem hojnI_4_6 : (opsjnI_4[6]?).map opD3 = some (.load 22 (.tmp 77), some 78, none) := by kernel_rfl
theorem hojnI_4_7 : (opsjnI_4[7]?).map opD3 = some (.slice 22 (.tmp 78) (some (.const (.int .i64 1))) none none, some 79, none) := by kernel_rfl
theorem hojnI_4_8 : (opsjnI_4[8]?).map opD3 = some (.buildSlice 57 2 #[(0, .tmp 76), (1, .tmp 79)], some 80, none) := by kernel_rfl
theorem hojnI_4_9 : (opsjnI_4[9]?).map opD3 = some (.call ⟨.value (.func 34), #[.tmp 80], #[57]⟩, some 81, none) := by kernel_rfl
theorem hojnI_4_10 : (opsjnI_4[10]?).map opD3 = some (.build 26 #[(0, .tmp 74), (1, .tmp 81)], some 82, none) := by kernel_rfl
theorem hojnI_4_11 : (opsjnI_4[11]?).map opD3 = some (.alloc 26, some 9, none) := by kernel_rfl
theorem hojnI_4_12 : (opsjnI_4[12]?).map opD3 = some (.store 26 (.tmp 9) (.tmp 82), none, none) := by kernel_rfl
def vjnI_4_0 (z : zjnI_4) : Nat → V
  | 0 => .ptr 4 0
  | 1 => .sl 0 0 (yjnI_49 z)
  | 2 => .sl 7 0 (yjnI_49 z)
  | 3 => .ptr 4 1
  | 4 => .sl 1 0 (yjnI_410 z)
  | 5 => .ptr 5 1
  | 6 => .sl 3 0 (yjnI_412 z)
  | 7 => .sl 3 1 (((((yjnI_412 z) : Nat) : Int) - 1).toNat)
  | 8 => .sl 8 0 2
  | 9 => .sl 9 0 ((yjnI_410 z) + (((((yjnI_412 z) : Nat) : Int) - 1).toNat))
  | 10 => .g [.sl 7 0 (yjnI_49 z), .sl 9 0 ((yjnI_410 z) + (((((yjnI_412 z) : Nat) : Int) - 1).toNat))]
  | 11 => .ptr 10 0
  | 12 => V.no
  | _ => .any
def qjnI_4_0 (z : zjnI_4) (k : Nat) (l : List (Nat × V)) : List V := setsA l (setsA (selA k [(0, 72), (1, 73), (2, 74), (3, 75), (4, 76), (5, 77), (6, 78), (7, 79), (8, 80), (9, 81), (10, 82), (11, 9)] (vjnI_4_0 z)) (sjnI_4 z))
def cjnI_4_0 (z : zjnI_4) : Prop := (decide ((yjnI_42 z).length = (yjnI_49 z) ∧ 1 ≤ (yjnI_49 z) ∧ (yjnI_49 z) < 2147483648)) = true ∧ (decide (0 ≤ (1 : Int) ∧ (1 : Int) ≤ (((yjnI_412 z) : Nat) : Int) ∧ ((((yjnI_412 z) : Nat) : Int) : Int) ≤ (((yjnI_412 z) : Nat) : Int))) = true ∧ (decide ((yjnI_44 z).length = (yjnI_410 z) ∧ 1 + (((((yjnI_412 z) : Nat) : Int) - 1).toNat) ≤ (yjnI_48 z).length ∧ 0 < (yjnI_410 z) ∧ (yjnI_410 z) < 1000 ∧ ((((yjnI_412 z) : Nat) : Int) - 1).toNat < 1000)) = true
abbrev ajnI_4_0 (z : zjnI_4) (m k : Nat) (t : List V) (h : H) : Prop := AnyRun Try.prog opsjnI_4 (FinTo [4, 6, 8, 9] 7 (⟨(.any :: .any :: .any :: .any :: .ptr 5 0 :: .any :: .ptr 6 0 :: .any :: .fl .f32 (yjnI_40 z) :: .ptr 7 0 :: (anys 93 [])), [.at (yjnI_41 z) (.fl .f32 (yjnI_42 z)), .at (yjnI_43 z) (.fl .f32 (yjnI_44 z)), .at (yjnI_45 z) (.fl .f32 (yjnI_46 z)), .at (yjnI_47 z) (.fl .f32 (yjnI_48 z)), .at true (.as 1 [.sl 0 0 (yjnI_49 z), .sl 1 0 (yjnI_410 z)]), .at true (.as 1 [.sl 2 0 (yjnI_411 z), .sl 3 0 (yjnI_412 z)]), .at true (.as 1 [.nil, .nil]), .at true (.as 1 [.sl 8 0 (yjnI_49 z), .sl 9 0 ((yjnI_410 z) + (((((yjnI_412 z) : Nat) : Int) - 1).toNat))]), .at true (.fl .f32 (yjnI_42 z)), .at true (.fl .f32 ((yjnI_44 z) ++ ((yjnI_48 z).drop 1).take (((((yjnI_412 z) : Nat) : Int) - 1).toNat)))]⟩ : St)) m (bitsA 13 k) t h
def bjnI_4_0 (z : zjnI_4) : Nat → B
  | 0 => .at true (.fl .f32 (yjnI_42 z))
  | 1 => .at true (.as 1 [.sl 1 0 (yjnI_410 z), .sl 3 1 (((((yjnI_412 z) : Nat) : Int) - 1).toNat)])
  | 2 => .at true (.fl .f32 ((yjnI_44 z) ++ ((yjnI_48 z).drop 1).take (((((yjnI_412 z) : Nat) : Int) - 1).toNat)))
  | 3 => .at true (.as 1 [.sl 7 0 (yjnI_49 z), .sl 9 0 ((yjnI_410 z) + (((((yjnI_412 z) : Nat) : Int) - 1).toNat))])
  | 4 => .at true (.as 1 [.nil, .nil])
  | 5 => .at true (.as 1 [.sl 7 0 (yjnI_49 z), .sl 10 0 ((yjnI_410 z) + (((((yjnI_412 z) : Nat) : Int) - 1).toNat))])
  | 6 => .at true (.as 1 [.sl 8 0 (yjnI_49 z), .sl 9 0 ((yjnI_410 z) + (((((yjnI_412 z) : Nat) : Int) - 1).toNat))])
  | 7 => .at true (.as 1 [.sl 8 0 (yjnI_49 z), .sl 10 0 ((yjnI_410 z) + (((((yjnI_412 z) : Nat) : Int) - 1).toNat))])
  | 8 => .at true (.as 1 [.sl 9 0 (yjnI_49 z), .sl 10 0 ((yjnI_410 z) + (((((yjnI_412 z) : Nat) : Int) - 1).toNat))])
  | _ => .gone
def HjnI_4_0 (z : zjnI_4) (l : List Nat) : H := hjnI_4 z ++ l.map (bjnI_4_0 z)
theorem anjnI_4_1 {z : zjnI_4} (hc : cjnI_4_0 z) : ajnI_4_0 z 0 8191 (qjnI_4_0 z 8191 []) (HjnI_4_0 z [0, 1, 2, 3]) := ⟨by kernel_rfl, [0, 1, 2, 3, 4, 5, 6, 10, 7, 9], by decide, by decide, by kernel_rfl, by kernel_rfl⟩
theorem anjnI_4_2 {z : zjnI_4} (hc : cjnI_4_0 z) : ajnI_4_0 z 1 4095 (qjnI_4_0 z 4095 []) (HjnI_4_0 z [0, 1, 2, 4]) := by
  refine any_next [12] (by kernel_rfl) (by decide) fun i hi => ?_
  obtain rfl := two1 hi
  · exact any_one _ (v := vjnI_4_0 z 12) tabok_jnI hojnI_4_12 (trivial) (by kernel_rfl) (by kernel_rfl) (by kernel_rfl) (anjnI_4_1 hc)
theorem anjnI_4_3 {z : zjnI_4} (hc : cjnI_4_0 z) : ajnI_4_0 z 2 2047 (qjnI_4_0 z 2047 []) (HjnI_4_0 z [0, 1, 2]) := by
  refine any_next [11] (by kernel_rfl) (by decide) fun i hi => ?_
  obtain rfl := two1 hi
  · exact any_one _ (v := vjnI_4_0 z 11) tabok_jnI hojnI_4_11 (trivial) (by kernel_rfl) (by kernel_rfl) (by kernel_rfl) (anjnI_4_2 hc)
theorem anjnI_4_4 {z : zjnI_4} (hc : cjnI_4_0 z) : ajnI_4_0 z 2 3071 (qjnI_4_0 z 3071 []) (HjnI_4_0 z [0, 1, 2, 4]) := by
  refine any_next [10] (by kernel_rfl) (by decide) fun i hi => ?_
  obtain rfl := two1 hi
  · exact any_one _ (v := vjnI_4_0 z 10) tabok_jnI hojnI_4_10 (trivial) (by kernel_rfl) (by kernel_rfl) (by kernel_rfl) (anjnI_4_2 hc)
theorem anjnI_4_5 {z : zjnI_4} (hc : cjnI_4_0 z) : ajnI_4_0 z 3 1023 (qjnI_4_0 z 1023 []) (HjnI_4_0 z [0, 1, 2]) := by
  refine any_next [10, 11] (by kernel_rfl) (by decide) fun i hi => ?_
  rcases two2 hi with rfl | rfl
  · exact any_one _ (v := vjnI_4_0 z 10) tabok_jnI hojnI_4_10 (trivial) (by kernel_rfl) (by kernel_rfl) (by kernel_rfl) (anjnI_4_3 hc)
  · exact any_one _ (v := vjnI_4_0 z 11) tabok_jnI hojnI_4_11 (trivial) (by kernel_rfl) (by kernel_rfl) (by kernel_rfl) (anjnI_4_4 hc)
theorem anjnI_4_6 {z : zjnI_4} (hc : cjnI_4_0 z) : ajnI_4_0 z 0 8191 (qjnI_4_0 z 8191 [(9, .ptr 9 0), (81, .sl 10 0 ((yjnI_410 z) + (((((yjnI_412 z) : Nat) : Int) - 1).toNat))), (82, .g [.sl 7 0 (yjnI_49 z), .sl 10 0 ((yjnI_410 z) + (((((yjnI_412 z) : Nat) : Int) - 1).toNat))])]) (HjnI_4_0 z [0, 1, 5, 2]) := ⟨by kernel_rfl, [0, 1, 2, 3, 4, 5, 6, 9, 7, 10], by decide, by decide, by kernel_rfl, by kernel_rfl⟩
theorem anjnI_4_7 {z : zjnI_4} (hc : cjnI_4_0 z) : ajnI_4_0 z 1 4095 (qjnI_4_0 z 4095 [(9, .ptr 9 0), (81, .sl 10 0 ((yjnI_410 z) + (((((yjnI_412 z) : Nat) : Int) - 1).toNat))), (82, .g [.sl 7 0 (yjnI_49 z), .sl 10 0 ((yjnI_410 z) + (((((yjnI_412 z) : Nat) : Int) - 1).toNat))])]) (HjnI_4_0 z [0, 1, 4, 2]) := by
  refine any_next [12] (by kernel_rfl) (by decide) fun i hi => ?_
  obtain rfl := two1 hi
  · exact any_one _ (v := vjnI_4_0 z 12) tabok_jnI hojnI_4_12 (trivial) (by kernel_rfl) (by kernel_rfl) (by kernel_rfl) (anjnI_4_6 hc)
theorem anjnI_4_8 {z : zjnI_4} (hc : cjnI_4_0 z) : ajnI_4_0 z 2 3071 (qjnI_4_0 z 3071 [(9, .ptr 9 0), (81, .sl 10 0 ((yjnI_410 z) + (((((yjnI_412 z) : Nat) : Int) - 1).toNat)))]) (HjnI_4_0 z [0, 1, 4, 2]) := by
  refine any_next [10] (by kernel_rfl) (by decide) fun i hi => ?_
  obtain rfl := two1 hi
  · exact any_one _ (v := .g [.sl 7 0 (yjnI_49 z), .sl 10 0 ((yjnI_410 z) + (((((yjnI_412 z) : Nat) : Int) - 1).toNat))]) tabok_jnI hojnI_4_10 (trivial) (by kernel_rfl) (by kernel_rfl) (by kernel_rfl) (anjnI_4_7 hc)
theorem anjnI_4_9 {z : zjnI_4} (hc : cjnI_4_0 z) : ajnI_4_0 z 3 2559 (qjnI_4_0 z 2559 [(9, .ptr 9 0)]) (HjnI_4_0 z [0, 1, 4]) := by
  refine any_next [9] (by kernel_rfl) (by decide) fun i hi => ?_
  obtain rfl := two1 hi
  · exact any_one _ (v := .sl 10 0 ((yjnI_410 z) + (((((yjnI_412 z) : Nat) : Int) - 1).toNat))) tabok_jnI hojnI_4_9 (trivial) (by
      refine Eq.trans (b := (match decide ((yjnI_44 z).length = (yjnI_410 z) ∧ 1 + (((((yjnI_412 z) : Nat) : Int) - 1).toNat) ≤ (yjnI_48 z).length ∧ 0 < (yjnI_410 z) ∧ (yjnI_410 z) < 1000 ∧ ((((yjnI_412 z) : Nat) : Int) - 1).toNat < 1000) with | true => some ((.sl 10 0 ((yjnI_410 z) + (((((yjnI_412 z) : Nat) : Int) - 1).toNat))), [.at (yjnI_41 z) (.fl .f32 (yjnI_42 z)), .at (yjnI_43 z) (.fl .f32 (yjnI_44 z)), .at (yjnI_45 z) (.fl .f32 (yjnI_46 z)), .at (yjnI_47 z) (.fl .f32 (yjnI_48 z)), .at true (.as 1 [.sl 0 0 (yjnI_49 z), .sl 1 0 (yjnI_410 z)]), .at true (.as 1 [.sl 2 0 (yjnI_411 z), .sl 3 0 (yjnI_412 z)]), .at true (.as 1 [.nil, .nil]), .at true (.fl .f32 (yjnI_42 z)), .at true (.as 1 [.sl 1 0 (yjnI_410 z), .sl 3 1 (((((yjnI_412 z) : Nat) : Int) - 1).toNat)]), .at true (.as 1 [.nil, .nil]), .at true (.fl .f32 ((yjnI_44 z) ++ ((yjnI_48 z).drop 1).take (((((yjnI_412 z) : Nat) : Int) - 1).toNat)))]) | false => none)) (by kernel_rfl) ?_
      rw [hc.2.2]
      try rfl) (by kernel_rfl) (by kernel_rfl) (anjnI_4_8 hc)
theorem anjnI_4_10 {z : zjnI_4} (hc : cjnI_4_0 z) : ajnI_4_0 z 4 511 (qjnI_4_0 z 511 []) (HjnI_4_0 z [0, 1]) := by
  refine any_next [9, 11] (by kernel_rfl) (by decide) fun i hi => ?_
  rcases two2 hi with rfl | rfl
  · exact any_one _ (v := vjnI_4_0 z 9) tabok_jnI hojnI_4_9 (trivial) (by
      refine Eq.trans (b := (match decide ((yjnI_44 z).length = (yjnI_410 z) ∧ 1 + (((((yjnI_412 z) : Nat) : Int) - 1).toNat) ≤ (yjnI_48 z).length ∧ 0 < (yjnI_410 z) ∧ (yjnI_410 z) < 1000 ∧ ((((yjnI_412 z) : Nat) : Int) - 1).toNat < 1000) with | true => some ((.sl 9 0 ((yjnI_410 z) + (((((yjnI_412 z) : Nat) : Int) - 1).toNat))), [.at (yjnI_41 z) (.fl .f32 (yjnI_42 z)), .at (yjnI_43 z) (.fl .f32 (yjnI_44 z)), .at (yjnI_45 z) (.fl .f32 (yjnI_46 z)), .at (yjnI_47 z) (.fl .f32 (yjnI_48 z)), .at true (.as 1 [.sl 0 0 (yjnI_49 z), .sl 1 0 (yjnI_410 z)]), .at true (.as 1 [.sl 2 0 (yjnI_411 z), .sl 3 0 (yjnI_412 z)]), .at true (.as 1 [.nil, .nil]), .at true (.fl .f32 (yjnI_42 z)), .at true (.as 1 [.sl 1 0 (yjnI_410 z), .sl 3 1 (((((yjnI_412 z) : Nat) : Int) - 1).toNat)]), .at true (.fl .f32 ((yjnI_44 z) ++ ((yjnI_48 z).drop 1).take (((((yjnI_412 z) : Nat) : Int) - 1).toNat)))]) | false => none)) (by kernel_rfl) ?_
      rw [hc.2.2]
      try rfl) (by kernel_rfl) (by kernel_rfl) (anjnI_4_5 hc)
  · exact any_one _ (v := .ptr 9 0) tabok_jnI hojnI_4_11 (trivial) (by kernel_rfl) (by kernel_rfl) (by kernel_rfl) (anjnI_4_9 hc)
theorem anjnI_4_11 {z : zjnI_4} (hc : cjnI_4_0 z) : ajnI_4_0 z 0 8191 (qjnI_4_0 z 8191 [(9, .ptr 8 0), (80, .sl 9 0 2), (81, .sl 10 0 ((yjnI_410 z) + (((((yjnI_412 z) : Nat) : Int) - 1).toNat))), (82, .g [.sl 7 0 (yjnI_49 z), .sl 10 0 ((yjnI_410 z) + (((((yjnI_412 z) : Nat) : Int) - 1).toNat))])]) (HjnI_4_0 z [0, 5, 1, 2]) := ⟨by kernel_rfl, [0, 1, 2, 3, 4, 5, 6, 8, 7, 10], by decide, by decide, by kernel_rfl, by kernel_rfl⟩
theorem anjnI_4_12 {z : zjnI_4} (hc : cjnI_4_0 z) : ajnI_4_0 z 1 4095 (qjnI_4_0 z 4095 [(9, .ptr 8 0), (80, .sl 9 0 2), (81, .sl 10 0 ((yjnI_410 z) + (((((yjnI_412 z) : Nat) : Int) - 1).toNat))), (82, .g [.sl 7 0 (yjnI_49 z), .sl 10 0 ((yjnI_410 z) + (((((yjnI_412 z) : Nat) : Int) - 1).toNat))])]) (HjnI_4_0 z [0, 4, 1, 2]) := by
  refine any_next [12] (by kernel_rfl) (by decide) fun i hi => ?_
  obtain rfl := two1 hi
  · exact any_one _ (v := vjnI_4_0 z 12) tabok_jnI hojnI_4_12 (trivial) (by kernel_rfl) (by kernel_rfl) (by kernel_rfl) (anjnI_4_11 hc)
theorem anjnI_4_13 {z : zjnI_4} (hc : cjnI_4_0 z) : ajnI_4_0 z 2 3071 (qjnI_4_0 z 3071 [(9, .ptr 8 0), (80, .sl 9 0 2), (81, .sl 10 0 ((yjnI_410 z) + (((((yjnI_412 z) : Nat) : Int) - 1).toNat)))]) (HjnI_4_0 z [0, 4, 1, 2]) := by
  refine any_next [10] (by kernel_rfl) (by decide) fun i hi => ?_
  obtain rfl := two1 hi
  · exact any_one _ (v := .g [.sl 7 0 (yjnI_49 z), .sl 10 0 ((yjnI_410 z) + (((((yjnI_412 z) : Nat) : Int) - 1).toNat))]) tabok_jnI hojnI_4_10 (trivial) (by kernel_rfl) (by kernel_rfl) (by kernel_rfl) (anjnI_4_12 hc)
theorem anjnI_4_14 {z : zjnI_4} (hc : cjnI_4_0 z) : ajnI_4_0 z 3 2559 (qjnI_4_0 z 2559 [(9, .ptr 8 0), (80, .sl 9 0 2)]) (HjnI_4_0 z [0, 4, 1]) := by
  refine any_next [9] (by kernel_rfl) (by decide) fun i hi => ?_
  obtain rfl := two1 hi
  · exact any_one _ (v := .sl 10 0 ((yjnI_410 z) + (((((yjnI_412 z) : Nat) : Int) - 1).toNat))) tabok_jnI hojnI_4_9 (trivial) (by
      refine Eq.trans (b := (match decide ((yjnI_44 z).length = (yjnI_410 z) ∧ 1 + (((((yjnI_412 z) : Nat) : Int) - 1).toNat) ≤ (yjnI_48 z).length ∧ 0 < (yjnI_410 z) ∧ (yjnI_410 z) < 1000 ∧ ((((yjnI_412 z) : Nat) : Int) - 1).toNat < 1000) with | true => some ((.sl 10 0 ((yjnI_410 z) + (((((yjnI_412 z) : Nat) : Int) - 1).toNat))), [.at (yjnI_41 z) (.fl .f32 (yjnI_42 z)), .at (yjnI_43 z) (.fl .f32 (yjnI_44 z)), .at (yjnI_45 z) (.fl .f32 (yjnI_46 z)), .at (yjnI_47 z) (.fl .f32 (yjnI_48 z)), .at true (.as 1 [.sl 0 0 (yjnI_49 z), .sl 1 0 (yjnI_410 z)]), .at true (.as 1 [.sl 2 0 (yjnI_411 z), .sl 3 0 (yjnI_412 z)]), .at true (.as 1 [.nil, .nil]), .at true (.fl .f32 (yjnI_42 z)), .at true (.as 1 [.nil, .nil]), .at true (.as 1 [.sl 1 0 (yjnI_410 z), .sl 3 1 (((((yjnI_412 z) : Nat) : Int) - 1).toNat)]), .at true (.fl .f32 ((yjnI_44 z) ++ ((yjnI_48 z).drop 1).take (((((yjnI_412 z) : Nat) : Int) - 1).toNat)))]) | false => none)) (by kernel_rfl) ?_
      rw [hc.2.2]
      try rfl) (by kernel_rfl) (by kernel_rfl) (anjnI_4_13 hc)
theorem anjnI_4_15 {z : zjnI_4} (hc : cjnI_4_0 z) : ajnI_4_0 z 4 2303 (qjnI_4_0 z 2303 [(9, .ptr 8 0)]) (HjnI_4_0 z [0, 4]) := by
  refine any_next [8] (by kernel_rfl) (by decide) fun i hi => ?_
  obtain rfl := two1 hi
  · exact any_one _ (v := .sl 9 0 2) tabok_jnI hojnI_4_8 (trivial) (by kernel_rfl) (by kernel_rfl) (by kernel_rfl) (anjnI_4_14 hc)
theorem anjnI_4_16 {z : zjnI_4} (hc : cjnI_4_0 z) : ajnI_4_0 z 5 255 (qjnI_4_0 z 255 []) (HjnI_4_0 z [0]) := by
  refine any_next [8, 11] (by kernel_rfl) (by decide) fun i hi => ?_
  rcases two2 hi with rfl | rfl
  · exact any_one _ (v := vjnI_4_0 z 8) tabok_jnI hojnI_4_8 (trivial) (by kernel_rfl) (by kernel_rfl) (by kernel_rfl) (anjnI_4_10 hc)
  · exact any_one _ (v := .ptr 8 0) tabok_jnI hojnI_4_11 (trivial) (by kernel_rfl) (by kernel_rfl) (by kernel_rfl) (anjnI_4_15 hc)
theorem anjnI_4_17 {z : zjnI_4} (hc : cjnI_4_0 z) : ajnI_4_0 z 5 2175 (qjnI_4_0 z 2175 [(9, .ptr 8 0)]) (HjnI_4_0 z [0, 4]) := by
  refine any_next [7] (by kernel_rfl) (by decide) fun i hi => ?_
  obtain rfl := two1 hi
  · exact any_one _ (v := vjnI_4_0 z 7) tabok_jnI hojnI_4_7 (trivial) (by
      refine Eq.trans (b := (match decide (0 ≤ (1 : Int) ∧ (1 : Int) ≤ (((yjnI_412 z) : Nat) : Int) ∧ ((((yjnI_412 z) : Nat) : Int) : Int) ≤ (((yjnI_412 z) : Nat) : Int)) with | true => some ((.sl 3 1 (((((yjnI_412 z) : Nat) : Int) - 1).toNat)), [.at (yjnI_41 z) (.fl .f32 (yjnI_42 z)), .at (yjnI_43 z) (.fl .f32 (yjnI_44 z)), .at (yjnI_45 z) (.fl .f32 (yjnI_46 z)), .at (yjnI_47 z) (.fl .f32 (yjnI_48 z)), .at true (.as 1 [.sl 0 0 (yjnI_49 z), .sl 1 0 (yjnI_410 z)]), .at true (.as 1 [.sl 2 0 (yjnI_411 z), .sl 3 0 (yjnI_412 z)]), .at true (.as 1 [.nil, .nil]), .at true (.fl .f32 (yjnI_42 z)), .at true (.as 1 [.nil, .nil])]) | false => none)) (by kernel_rfl) ?_
      rw [hc.2.1]
      try rfl) (by kernel_rfl) (by kernel_rfl) (anjnI_4_15 hc)
theorem anjnI_4_18 {z : zjnI_4} (hc : cjnI_4_0 z) : ajnI_4_0 z 6 127 (qjnI_4_0 z 127 []) (HjnI_4_0 z [0]) := by
  refine any_next [7, 11] (by kernel_rfl) (by decide) fun i hi => ?_
  rcases two2 hi with rfl | rfl
  · exact any_one _ (v := vjnI_4_0 z 7) tabok_jnI hojnI_4_7 (trivial) (by
      refine Eq.trans (b := (match decide (0 ≤ (1 : Int) ∧ (1 : Int) ≤ (((yjnI_412 z) : Nat) : Int) ∧ ((((yjnI_412 z) : Nat) : Int) : Int) ≤ (((yjnI_412 z) : Nat) : Int)) with | true => some ((.sl 3 1 (((((yjnI_412 z) : Nat) : Int) - 1).toNat)), [.at (yjnI_41 z) (.fl .f32 (yjnI_42 z)), .at (yjnI_43 z) (.fl .f32 (yjnI_44 z)), .at (yjnI_45 z) (.fl .f32 (yjnI_46 z)), .at (yjnI_47 z) (.fl .f32 (yjnI_48 z)), .at true (.as 1 [.sl 0 0 (yjnI_49 z), .sl 1 0 (yjnI_410 z)]), .at true (.as 1 [.sl 2 0 (yjnI_411 z), .sl 3 0 (yjnI_412 z)]), .at true (.as 1 [.nil, .nil]), .at true (.fl .f32 (yjnI_42 z))]) | false => none)) (by kernel_rfl) ?_
      rw [hc.2.1]
      try rfl) (by kernel_rfl) (by kernel_rfl) (anjnI_4_16 hc)
  · exact any_one _ (v := .ptr 8 0) tabok_jnI hojnI_4_11 (trivial) (by kernel_rfl) (by kernel_rfl) (by kernel_rfl) (anjnI_4_17 hc)
theorem anjnI_4_19 {z : zjnI_4} (hc : cjnI_4_0 z) : ajnI_4_0 z 6 2111 (qjnI_4_0 z 2111 [(9, .ptr 8 0)]) (HjnI_4_0 z [0, 4]) := by
  refine any_next [6] (by kernel_rfl) (by decide) fun i hi => ?_
  obtain rfl := two1 hi
  · exact any_one _ (v := vjnI_4_0 z 6) tabok_jnI hojnI_4_6 (trivial) (by kernel_rfl) (by kernel_rfl) (by kernel_rfl) (anjnI_4_17 hc)
theorem anjnI_4_20 {z : zjnI_4} (hc : cjnI_4_0 z) : ajnI_4_0 z 7 63 (qjnI_4_0 z 63 []) (HjnI_4_0 z [0]) := by
  refine any_next [6, 11] (by kernel_rfl) (by decide) fun i hi => ?_
  rcases two2 hi with rfl | rfl
  · exact any_one _ (v := vjnI_4_0 z 6) tabok_jnI hojnI_4_6 (trivial) (by kernel_rfl) (by kernel_rfl) (by kernel_rfl) (anjnI_4_18 hc)
  · exact any_one _ (v := .ptr 8 0) tabok_jnI hojnI_4_11 (trivial) (by kernel_rfl) (by kernel_rfl) (by kernel_rfl) (anjnI_4_19 hc)
theorem anjnI_4_21 {z : zjnI_4} (hc : cjnI_4_0 z) : ajnI_4_0 z 7 2079 (qjnI_4_0 z 2079 [(9, .ptr 8 0)]) (HjnI_4_0 z [0, 4]) := by
  refine any_next [5] (by kernel_rfl) (by decide) fun i hi => ?_
  obtain rfl := two1 hi
  · exact any_one _ (v := vjnI_4_0 z 5) tabok_jnI hojnI_4_5 (trivial) (by kernel_rfl) (by kernel_rfl) (by kernel_rfl) (anjnI_4_19 hc)
theorem anjnI_4_22 {z : zjnI_4} (hc : cjnI_4_0 z) : ajnI_4_0 z 8 31 (qjnI_4_0 z 31 []) (HjnI_4_0 z [0]) := by
  refine any_next [5, 11] (by kernel_rfl) (by decide) fun i hi => ?_
  rcases two2 hi with rfl | rfl
  · exact any_one _ (v := vjnI_4_0 z 5) tabok_jnI hojnI_4_5 (trivial) (by kernel_rfl) (by kernel_rfl) (by kernel_rfl) (anjnI_4_20 hc)
  · exact any_one _ (v := .ptr 8 0) tabok_jnI hojnI_4_11 (trivial) (by kernel_rfl) (by kernel_rfl) (by kernel_rfl) (anjnI_4_21 hc)
theorem anjnI_4_23 {z : zjnI_4} (hc : cjnI_4_0 z) : ajnI_4_0 z 5 2287 (qjnI_4_0 z 2287 [(9, .ptr 8 0)]) (HjnI_4_0 z [0, 4]) := by
  refine any_next [4] (by kernel_rfl) (by decide) fun i hi => ?_
  obtain rfl := two1 hi
  · exact any_one _ (v := vjnI_4_0 z 4) tabok_jnI hojnI_4_4 (trivial) (by kernel_rfl) (by kernel_rfl) (by kernel_rfl) (anjnI_4_15 hc)
theorem anjnI_4_24 {z : zjnI_4} (hc : cjnI_4_0 z) : ajnI_4_0 z 6 239 (qjnI_4_0 z 239 []) (HjnI_4_0 z [0]) := by
  refine any_next [4, 11] (by kernel_rfl) (by decide) fun i hi => ?_
  rcases two2 hi with rfl | rfl
  · exact any_one _ (v := vjnI_4_0 z 4) tabok_jnI hojnI_4_4 (trivial) (by kernel_rfl) (by kernel_rfl) (by kernel_rfl) (anjnI_4_16 hc)
  · exact any_one _ (v := .ptr 8 0) tabok_jnI hojnI_4_11 (trivial) (by kernel_rfl) (by kernel_rfl) (by kernel_rfl) (anjnI_4_23 hc)
theorem anjnI_4_25 {z : zjnI_4} (hc : cjnI_4_0 z) : ajnI_4_0 z 6 2159 (qjnI_4_0 z 2159 [(9, .ptr 8 0)]) (HjnI_4_0 z [0, 4]) := by
  refine any_next [4, 7] (by kernel_rfl) (by decide) fun i hi => ?_
  rcases two2 hi with rfl | rfl
  · exact any_one _ (v := vjnI_4_0 z 4) tabok_jnI hojnI_4_4 (trivial) (by kernel_rfl) (by kernel_rfl) (by kernel_rfl) (anjnI_4_17 hc)
  · exact any_one _ (v := vjnI_4_0 z 7) tabok_jnI hojnI_4_7 (trivial) (by
      refine Eq.trans (b := (match decide (0 ≤ (1 : Int) ∧ (1 : Int) ≤ (((yjnI_412 z) : Nat) : Int) ∧ ((((yjnI_412 z) : Nat) : Int) : Int) ≤ (((yjnI_412 z) : Nat) : Int)) with | true => some ((.sl 3 1 (((((yjnI_412 z) : Nat) : Int) - 1).toNat)), [.at (yjnI_41 z) (.fl .f32 (yjnI_42 z)), .at (yjnI_43 z) (.fl .f32 (yjnI_44 z)), .at (yjnI_45 z) (.fl .f32 (yjnI_46 z)), .at (yjnI_47 z) (.fl .f32 (yjnI_48 z)), .at true (.as 1 [.sl 0 0 (yjnI_49 z), .sl 1 0 (yjnI_410 z)]), .at true (.as 1 [.sl 2 0 (yjnI_411 z), .sl 3 0 (yjnI_412 z)]), .at true (.as 1 [.nil, .nil]), .at true (.fl .f32 (yjnI_42 z)), .at true (.as 1 [.nil, .nil])]) | false => none)) (by kernel_rfl) ?_
      rw [hc.2.1]
      try rfl) (by kernel_rfl) (by kernel_rfl) (anjnI_4_23 hc)
theorem anjnI_4_26 {z : zjnI_4} (hc : cjnI_4_0 z) : ajnI_4_0 z 7 111 (qjnI_4_0 z 111 []) (HjnI_4_0 z [0]) := by
  refine any_next [4, 7, 11] (by kernel_rfl) (by decide) fun i hi => ?_
  rcases two3 hi with rfl | rfl | rfl
  · exact any_one _ (v := vjnI_4_0 z 4) tabok_jnI hojnI_4_4 (trivial) (by kernel_rfl) (by kernel_rfl) (by kernel_rfl) (anjnI_4_18 hc)
  · exact any_one _ (v := vjnI_4_0 z 7) tabok_jnI hojnI_4_7 (trivial) (by
      refine Eq.trans (b := (match decide (0 ≤ (1 : Int) ∧ (1 : Int) ≤ (((yjnI_412 z) : Nat) : Int) ∧ ((((yjnI_412 z) : Nat) : Int) : Int) ≤ (((yjnI_412 z) : Nat) : Int)) with | true => some ((.sl 3 1 (((((yjnI_412 z) : Nat) : Int) - 1).toNat)), [.at (yjnI_41 z) (.fl .f32 (yjnI_42 z)), .at (yjnI_43 z) (.fl .f32 (yjnI_44 z)), .at (yjnI_45 z) (.fl .f32 (yjnI_46 z)), .at (yjnI_47 z) (.fl .f32 (yjnI_48 z)), .at true (.as 1 [.sl 0 0 (yjnI_49 z), .sl 1 0 (yjnI_410 z)]), .at true (.as 1 [.sl 2 0 (yjnI_411 z), .sl 3 0 (yjnI_412 z)]), .at true (.as 1 [.nil, .nil]), .at true (.fl .f32 (yjnI_42 z))]) | false => none)) (by kernel_rfl) ?_
      rw [hc.2.1]
      try rfl) (by kernel_rfl) (by kernel_rfl) (anjnI_4_24 hc)
  · exact any_one _ (v := .ptr 8 0) tabok_jnI hojnI_4_11 (trivial) (by kernel_rfl) (by kernel_rfl) (by kernel_rfl) (anjnI_4_25 hc)
theorem anjnI_4_27 {z : zjnI_4} (hc : cjnI_4_0 z) : ajnI_4_0 z 7 2095 (qjnI_4_0 z 2095 [(9, .ptr 8 0)]) (HjnI_4_0 z [0, 4]) := by
  refine any_next [4, 6] (by kernel_rfl) (by decide) fun i hi => ?_
  rcases two2 hi with rfl | rfl
  · exact any_one _ (v := vjnI_4_0 z 4) tabok_jnI hojnI_4_4 (trivial) (by kernel_rfl) (by kernel_rfl) (by kernel_rfl) (anjnI_4_19 hc)
  · exact any_one _ (v := vjnI_4_0 z 6) tabok_jnI hojnI_4_6 (trivial) (by kernel_rfl) (by kernel_rfl) (by kernel_rfl) (anjnI_4_25 hc)
theorem anjnI_4_28 {z : zjnI_4} (hc : cjnI_4_0 z) : ajnI_4_0 z 8 47 (qjnI_4_0 z 47 []) (HjnI_4_0 z [0]) := by
  refine any_next [4, 6, 11] (by kernel_rfl) (by decide) fun i hi => ?_
  rcases two3 hi with rfl | rfl | rfl
  · exact any_one _ (v := vjnI_4_0 z 4) tabok_jnI hojnI_4_4 (trivial) (by kernel_rfl) (by kernel_rfl) (by kernel_rfl) (anjnI_4_20 hc)
  · exact any_one _ (v := vjnI_4_0 z 6) tabok_jnI hojnI_4_6 (trivial) (by kernel_rfl) (by kernel_rfl) (by kernel_rfl) (anjnI_4_26 hc)
  · exact any_one _ (v := .ptr 8 0) tabok_jnI hojnI_4_11 (trivial) (by kernel_rfl) (by kernel_rfl) (by kernel_rfl) (anjnI_4_27 hc)
theorem anjnI_4_29 {z : zjnI_4} (hc : cjnI_4_0 z) : ajnI_4_0 z 8 2063 (qjnI_4_0 z 2063 [(9, .ptr 8 0)]) (HjnI_4_0 z [0, 4]) := by
  refine any_next [4, 5] (by kernel_rfl) (by decide) fun i hi => ?_
  rcases two2 hi with rfl | rfl
  · exact any_one _ (v := vjnI_4_0 z 4) tabok_jnI hojnI_4_4 (trivial) (by kernel_rfl) (by kernel_rfl) (by kernel_rfl) (anjnI_4_21 hc)
  · exact any_one _ (v := vjnI_4_0 z 5) tabok_jnI hojnI_4_5 (trivial) (by kernel_rfl) (by kernel_rfl) (by kernel_rfl) (anjnI_4_27 hc)
theorem anjnI_4_30 {z : zjnI_4} (hc : cjnI_4_0 z) : ajnI_4_0 z 9 15 (qjnI_4_0 z 15 []) (HjnI_4_0 z [0]) := by
  refine any_next [4, 5, 11] (by kernel_rfl) (by decide) fun i hi => ?_
  rcases two3 hi with rfl | rfl | rfl
  · exact any_one _ (v := vjnI_4_0 z 4) tabok_jnI hojnI_4_4 (trivial) (by kernel_rfl) (by kernel_rfl) (by kernel_rfl) (anjnI_4_22 hc)
  · exact any_one _ (v := vjnI_4_0 z 5) tabok_jnI hojnI_4_5 (trivial) (by kernel_rfl) (by kernel_rfl) (by kernel_rfl) (anjnI_4_28 hc)
  · exact any_one _ (v := .ptr 8 0) tabok_jnI hojnI_4_11 (trivial) (by kernel_rfl) (by kernel_rfl) (by kernel_rfl) (anjnI_4_29 hc)
theorem anjnI_4_31 {z : zjnI_4} (hc : cjnI_4_0 z) : ajnI_4_0 z 6 2279 (qjnI_4_0 z 2279 [(9, .ptr 8 0)]) (HjnI_4_0 z [0, 4]) := by
  refine any_next [3] (by kernel_rfl) (by decide) fun i hi => ?_
  obtain rfl := two1 hi
  · exact any_one _ (v := vjnI_4_0 z 3) tabok_jnI hojnI_4_3 (trivial) (by kernel_rfl) (by kernel_rfl) (by kernel_rfl) (anjnI_4_23 hc)
theorem anjnI_4_32 {z : zjnI_4} (hc : cjnI_4_0 z) : ajnI_4_0 z 7 231 (qjnI_4_0 z 231 []) (HjnI_4_0 z [0]) := by
  refine any_next [3, 11] (by kernel_rfl) (by decide) fun i hi => ?_
  rcases two2 hi with rfl | rfl
  · exact any_one _ (v := vjnI_4_0 z 3) tabok_jnI hojnI_4_3 (trivial) (by kernel_rfl) (by kernel_rfl) (by kernel_rfl) (anjnI_4_24 hc)
  · exact any_one _ (v := .ptr 8 0) tabok_jnI hojnI_4_11 (trivial) (by kernel_rfl) (by kernel_rfl) (by kernel_rfl) (anjnI_4_31 hc)
theorem anjnI_4_33 {z : zjnI_4} (hc : cjnI_4_0 z) : ajnI_4_0 z 7 2151 (qjnI_4_0 z 2151 [(9, .ptr 8 0)]) (HjnI_4_0 z [0, 4]) := by
  refine any_next [3, 7] (by kernel_rfl) (by decide) fun i hi => ?_
  rcases two2 hi with rfl | rfl
  · exact any_one _ (v := vjnI_4_0 z 3) tabok_jnI hojnI_4_3 (trivial) (by kernel_rfl) (by kernel_rfl) (by kernel_rfl) (anjnI_4_25 hc)
  · exact any_one _ (v := vjnI_4_0 z 7) tabok_jnI hojnI_4_7 (trivial) (by
      refine Eq.trans (b := (match decide (0 ≤ (1 : Int) ∧ (1 : Int) ≤ (((yjnI_412 z) : Nat) : Int) ∧ ((((yjnI_412 z) : Nat) : Int) : Int) ≤ (((yjnI_412 z) : Nat) : Int)) with | true => some ((.sl 3 1 (((((yjnI_412 z) : Nat) : Int) - 1).toNat)), [.at (yjnI_41 z) (.fl .f32 (yjnI_42 z)), .at (yjnI_43 z) (.fl .f32 (yjnI_44 z)), .at (yjnI_45 z) (.fl .f32 (yjnI_46 z)), .at (yjnI_47 z) (.fl .f32 (yjnI_48 z)), .at true (.as 1 [.sl 0 0 (yjnI_49 z), .sl 1 0 (yjnI_410 z)]), .at true (.as 1 [.sl 2 0 (yjnI_411 z), .sl 3 0 (yjnI_412 z)]), .at true (.as 1 [.nil, .nil]), .at true (.fl .f32 (yjnI_42 z)), .at true (.as 1 [.nil, .nil])]) | false => none)) (by kernel_rfl) ?_
      rw [hc.2.1]
      try rfl) (by kernel_rfl) (by kernel_rfl) (anjnI_4_31 hc)
theorem anjnI_4_34 {z : zjnI_4} (hc : cjnI_4_0 z) : ajnI_4_0 z 8 103 (qjnI_4_0 z 103 []) (HjnI_4_0 z [0]) := by
  refine any_next [3, 7, 11] (by kernel_rfl) (by decide) fun i hi => ?_
  rcases two3 hi with rfl | rfl | rfl
  · exact any_one _ (v := vjnI_4_0 z 3) tabok_jnI hojnI_4_3 (trivial) (by kernel_rfl) (by kernel_rfl) (by kernel_rfl) (anjnI_4_26 hc)
  · exact any_one _ (v := vjnI_4_0 z 7) tabok_jnI hojnI_4_7 (trivial) (by
      refine Eq.trans (b := (match decide (0 ≤ (1 : Int) ∧ (1 : Int) ≤ (((yjnI_412 z) : Nat) : Int) ∧ ((((yjnI_412 z) : Nat) : Int) : Int) ≤ (((yjnI_412 z) : Nat) : Int)) with | true => some ((.sl 3 1 (((((yjnI_412 z) : Nat) : Int) - 1).toNat)), [.at (yjnI_41 z) (.fl .f32 (yjnI_42 z)), .at (yjnI_43 z) (.fl .f32 (yjnI_44 z)), .at (yjnI_45 z) (.fl .f32 (yjnI_46 z)), .at (yjnI_47 z) (.fl .f32 (yjnI_48 z)), .at true (.as 1 [.sl 0 0 (yjnI_49 z), .sl 1 0 (yjnI_410 z)]), .at true (.as 1 [.sl 2 0 (yjnI_411 z), .sl 3 0 (yjnI_412 z)]), .at true (.as 1 [.nil, .nil]), .at true (.fl .f32 (yjnI_42 z))]) | false => none)) (by kernel_rfl) ?_
      rw [hc.2.1]
      try rfl) (by kernel_rfl) (by kernel_rfl) (anjnI_4_32 hc)
  · exact any_one _ (v := .ptr 8 0) tabok_jnI hojnI_4_11 (trivial) (by kernel_rfl) (by kernel_rfl) (by kernel_rfl) (anjnI_4_33 hc)
theorem anjnI_4_35 {z : zjnI_4} (hc : cjnI_4_0 z) : ajnI_4_0 z 8 2087 (qjnI_4_0 z 2087 [(9, .ptr 8 0)]) (HjnI_4_0 z [0, 4]) := by
  refine any_next [3, 6] (by kernel_rfl) (by decide) fun i hi => ?_
  rcases two2 hi with rfl | rfl
  · exact any_one _ (v := vjnI_4_0 z 3) tabok_jnI hojnI_4_3 (trivial) (by kernel_rfl) (by kernel_rfl) (by kernel_rfl) (anjnI_4_27 hc)
  · exact any_one _ (v := vjnI_4_0 z 6) tabok_jnI hojnI_4_6 (trivial) (by kernel_rfl) (by kernel_rfl) (by kernel_rfl) (anjnI_4_33 hc)
theorem anjnI_4_36 {z : zjnI_4} (hc : cjnI_4_0 z) : ajnI_4_0 z 9 39 (qjnI_4_0 z 39 []) (HjnI_4_0 z [0]) := by
  refine any_next [3, 6, 11] (by kernel_rfl) (by decide) fun i hi => ?_
  rcases two3 hi with rfl | rfl | rfl
  · exact any_one _ (v := vjnI_4_0 z 3) tabok_jnI hojnI_4_3 (trivial) (by kernel_rfl) (by kernel_rfl) (by kernel_rfl) (anjnI_4_28 hc)
  · exact any_one _ (v := vjnI_4_0 z 6) tabok_jnI hojnI_4_6 (trivial) (by kernel_rfl) (by kernel_rfl) (by kernel_rfl) (anjnI_4_34 hc)
  · exact any_one _ (v := .ptr 8 0) tabok_jnI hojnI_4_11 (trivial) (by kernel_rfl) (by kernel_rfl) (by kernel_rfl) (anjnI_4_35 hc)
theorem anjnI_4_37 {z : zjnI_4} (hc : cjnI_4_0 z) : ajnI_4_0 z 9 2055 (qjnI_4_0 z 2055 [(9, .ptr 8 0)]) (HjnI_4_0 z [0, 4]) := by
  refine any_next [3, 5] (by kernel_rfl) (by decide) fun i hi => ?_
  rcases two2 hi with rfl | rfl
  · exact any_one _ (v := vjnI_4_0 z 3) tabok_jnI hojnI_4_3 (trivial) (by kernel_rfl) (by kernel_rfl) (by kernel_rfl) (anjnI_4_29 hc)
  · exact any_one _ (v := vjnI_4_0 z 5) tabok_jnI hojnI_4_5 (trivial) (by kernel_rfl) (by kernel_rfl) (by kernel_rfl) (anjnI_4_35 hc)
theorem anjnI_4_38 {z : zjnI_4} (hc : cjnI_4_0 z) : ajnI_4_0 z 10 7 (qjnI_4_0 z 7 []) (HjnI_4_0 z [0]) := by
  refine any_next [3, 5, 11] (by kernel_rfl) (by decide) fun i hi => ?_
  rcases two3 hi with rfl | rfl | rfl
  · exact any_one _ (v := vjnI_4_0 z 3) tabok_jnI hojnI_4_3 (trivial) (by kernel_rfl) (by kernel_rfl) (by kernel_rfl) (anjnI_4_30 hc)
  · exact any_one _ (v := vjnI_4_0 z 5) tabok_jnI hojnI_4_5 (trivial) (by kernel_rfl) (by kernel_rfl) (by kernel_rfl) (anjnI_4_36 hc)
  · exact any_one _ (v := .ptr 8 0) tabok_jnI hojnI_4_11 (trivial) (by kernel_rfl) (by kernel_rfl) (by kernel_rfl) (anjnI_4_37 hc)
theorem anjnI_4_39 {z : zjnI_4} (hc : cjnI_4_0 z) : ajnI_4_0 z 0 8191 (qjnI_4_0 z 8191 [(74, .sl 8 0 (yjnI_49 z)), (80, .sl 7 0 2), (82, .g [.sl 8 0 (yjnI_49 z), .sl 9 0 ((yjnI_410 z) + (((((yjnI_412 z) : Nat) : Int) - 1).toNat))])]) (HjnI_4_0 z [1, 0, 2, 6]) := ⟨by kernel_rfl, [0, 1, 2, 3, 4, 5, 6, 10, 8, 9], by decide, by decide, by kernel_rfl, by kernel_rfl⟩
theorem anjnI_4_40 {z : zjnI_4} (hc : cjnI_4_0 z) : ajnI_4_0 z 1 4095 (qjnI_4_0 z 4095 [(74, .sl 8 0 (yjnI_49 z)), (80, .sl 7 0 2), (82, .g [.sl 8 0 (yjnI_49 z), .sl 9 0 ((yjnI_410 z) + (((((yjnI_412 z) : Nat) : Int) - 1).toNat))])]) (HjnI_4_0 z [1, 0, 2, 4]) := by
  refine any_next [12] (by kernel_rfl) (by decide) fun i hi => ?_
  obtain rfl := two1 hi
  · exact any_one _ (v := vjnI_4_0 z 12) tabok_jnI hojnI_4_12 (trivial) (by kernel_rfl) (by kernel_rfl) (by kernel_rfl) (anjnI_4_39 hc)
theorem anjnI_4_41 {z : zjnI_4} (hc : cjnI_4_0 z) : ajnI_4_0 z 2 2047 (qjnI_4_0 z 2047 [(74, .sl 8 0 (yjnI_49 z)), (80, .sl 7 0 2), (82, .g [.sl 8 0 (yjnI_49 z), .sl 9 0 ((yjnI_410 z) + (((((yjnI_412 z) : Nat) : Int) - 1).toNat))])]) (HjnI_4_0 z [1, 0, 2]) := by
  refine any_next [11] (by kernel_rfl) (by decide) fun i hi => ?_
  obtain rfl := two1 hi
  · exact any_one _ (v := vjnI_4_0 z 11) tabok_jnI hojnI_4_11 (trivial) (by kernel_rfl) (by kernel_rfl) (by kernel_rfl) (anjnI_4_40 hc)
theorem anjnI_4_42 {z : zjnI_4} (hc : cjnI_4_0 z) : ajnI_4_0 z 2 3071 (qjnI_4_0 z 3071 [(74, .sl 8 0 (yjnI_49 z)), (80, .sl 7 0 2)]) (HjnI_4_0 z [1, 0, 2, 4]) := by
  refine any_next [10] (by kernel_rfl) (by decide) fun i hi => ?_
  obtain rfl := two1 hi
  · exact any_one _ (v := .g [.sl 8 0 (yjnI_49 z), .sl 9 0 ((yjnI_410 z) + (((((yjnI_412 z) : Nat) : Int) - 1).toNat))]) tabok_jnI hojnI_4_10 (trivial) (by kernel_rfl) (by kernel_rfl) (by kernel_rfl) (anjnI_4_40 hc)
theorem anjnI_4_43 {z : zjnI_4} (hc : cjnI_4_0 z) : ajnI_4_0 z 3 1023 (qjnI_4_0 z 1023 [(74, .sl 8 0 (yjnI_49 z)), (80, .sl 7 0 2)]) (HjnI_4_0 z [1, 0, 2]) := by
  refine any_next [10, 11] (by kernel_rfl) (by decide) fun i hi => ?_
  rcases two2 hi with rfl | rfl
  · exact any_one _ (v := .g [.sl 8 0 (yjnI_49 z), .sl 9 0 ((yjnI_410 z) + (((((yjnI_412 z) : Nat) : Int) - 1).toNat))]) tabok_jnI hojnI_4_10 (trivial) (by kernel_rfl) (by kernel_rfl) (by kernel_rfl) (anjnI_4_41 hc)
  · exact any_one _ (v := vjnI_4_0 z 11) tabok_jnI hojnI_4_11 (trivial) (by kernel_rfl) (by kernel_rfl) (by kernel_rfl) (anjnI_4_42 hc)
theorem anjnI_4_44 {z : zjnI_4} (hc : cjnI_4_0 z) : ajnI_4_0 z 0 8191 (qjnI_4_0 z 8191 [(9, .ptr 9 0), (74, .sl 8 0 (yjnI_49 z)), (80, .sl 7 0 2), (81, .sl 10 0 ((yjnI_410 z) + (((((yjnI_412 z) : Nat) : Int) - 1).toNat))), (82, .g [.sl 8 0 (yjnI_49 z), .sl 10 0 ((yjnI_410 z) + (((((yjnI_412 z) : Nat) : Int) - 1).toNat))])]) (HjnI_4_0 z [1, 0, 7, 2]) := ⟨by kernel_rfl, [0, 1, 2, 3, 4, 5, 6, 9, 8, 10], by decide, by decide, by kernel_rfl, by kernel_rfl⟩
theorem anjnI_4_45 {z : zjnI_4} (hc : cjnI_4_0 z) : ajnI_4_0 z 1 4095 (qjnI_4_0 z 4095 [(9, .ptr 9 0), (74, .sl 8 0 (yjnI_49 z)), (80, .sl 7 0 2), (81, .sl 10 0 ((yjnI_410 z) + (((((yjnI_412 z) : Nat) : Int) - 1).toNat))), (82, .g [.sl 8 0 (yjnI_49 z), .sl 10 0 ((yjnI_410 z) + (((((yjnI_412 z) : Nat) : Int) - 1).toNat))])]) (HjnI_4_0 z [1, 0, 4, 2]) := by
  refine any_next [12] (by kernel_rfl) (by decide) fun i hi => ?_
  obtain rfl := two1 hi
  · exact any_one _ (v := vjnI_4_0 z 12) tabok_jnI hojnI_4_12 (trivial) (by kernel_rfl) (by kernel_rfl) (by kernel_rfl) (anjnI_4_44 hc)
theorem anjnI_4_46 {z : zjnI_4} (hc : cjnI_4_0 z) : ajnI_4_0 z 2 3071 (qjnI_4_0 z 3071 [(9, .ptr 9 0), (74, .sl 8 0 (yjnI_49 z)), (80, .sl 7 0 2), (81, .sl 10 0 ((yjnI_410 z) + (((((yjnI_412 z) : Nat) : Int) - 1).toNat)))]) (HjnI_4_0 z [1, 0, 4, 2]) := by
  refine any_next [10] (by kernel_rfl) (by decide) fun i hi => ?_
  obtain rfl := two1 hi
  · exact any_one _ (v := .g [.sl 8 0 (yjnI_49 z), .sl 10 0 ((yjnI_410 z) + (((((yjnI_412 z) : Nat) : Int) - 1).toNat))]) tabok_jnI hojnI_4_10 (trivial) (by kernel_rfl) (by kernel_rfl) (by kernel_rfl) (anjnI_4_45 hc)
theorem anjnI_4_47 {z : zjnI_4} (hc : cjnI_4_0 z) : ajnI_4_0 z 3 2559 (qjnI_4_0 z 2559 [(9, .ptr 9 0), (74, .sl 8 0 (yjnI_49 z)), (80, .sl 7 0 2)]) (HjnI_4_0 z [1, 0, 4]) := by
  refine any_next [9] (by kernel_rfl) (by decide) fun i hi => ?_
  obtain rfl := two1 hi
  · exact any_one _ (v := .sl 10 0 ((yjnI_410 z) + (((((yjnI_412 z) : Nat) : Int) - 1).toNat))) tabok_jnI hojnI_4_9 (trivial) (by
      refine Eq.trans (b := (match decide ((yjnI_44 z).length = (yjnI_410 z) ∧ 1 + (((((yjnI_412 z) : Nat) : Int) - 1).toNat) ≤ (yjnI_48 z).length ∧ 0 < (yjnI_410 z) ∧ (yjnI_410 z) < 1000 ∧ ((((yjnI_412 z) : Nat) : Int) - 1).toNat < 1000) with | true => some ((.sl 10 0 ((yjnI_410 z) + (((((yjnI_412 z) : Nat) : Int) - 1).toNat))), [.at (yjnI_41 z) (.fl .f32 (yjnI_42 z)), .at (yjnI_43 z) (.fl .f32 (yjnI_44 z)), .at (yjnI_45 z) (.fl .f32 (yjnI_46 z)), .at (yjnI_47 z) (.fl .f32 (yjnI_48 z)), .at true (.as 1 [.sl 0 0 (yjnI_49 z), .sl 1 0 (yjnI_410 z)]), .at true (.as 1 [.sl 2 0 (yjnI_411 z), .sl 3 0 (yjnI_412 z)]), .at true (.as 1 [.nil, .nil]), .at true (.as 1 [.sl 1 0 (yjnI_410 z), .sl 3 1 (((((yjnI_412 z) : Nat) : Int) - 1).toNat)]), .at true (.fl .f32 (yjnI_42 z)), .at true (.as 1 [.nil, .nil]), .at true (.fl .f32 ((yjnI_44 z) ++ ((yjnI_48 z).drop 1).take (((((yjnI_412 z) : Nat) : Int) - 1).toNat)))]) | false => none)) (by kernel_rfl) ?_
      rw [hc.2.2]
      try rfl) (by kernel_rfl) (by kernel_rfl) (anjnI_4_46 hc)
theorem anjnI_4_48 {z : zjnI_4} (hc : cjnI_4_0 z) : ajnI_4_0 z 4 511 (qjnI_4_0 z 511 [(74, .sl 8 0 (yjnI_49 z)), (80, .sl 7 0 2)]) (HjnI_4_0 z [1, 0]) := by
  refine any_next [9, 11] (by kernel_rfl) (by decide) fun i hi => ?_
  rcases two2 hi with rfl | rfl
  · exact any_one _ (v := vjnI_4_0 z 9) tabok_jnI hojnI_4_9 (trivial) (by
      refine Eq.trans (b := (match decide ((yjnI_44 z).length = (yjnI_410 z) ∧ 1 + (((((yjnI_412 z) : Nat) : Int) - 1).toNat) ≤ (yjnI_48 z).length ∧ 0 < (yjnI_410 z) ∧ (yjnI_410 z) < 1000 ∧ ((((yjnI_412 z) : Nat) : Int) - 1).toNat < 1000) with | true => some ((.sl 9 0 ((yjnI_410 z) + (((((yjnI_412 z) : Nat) : Int) - 1).toNat))), [.at (yjnI_41 z) (.fl .f32 (yjnI_42 z)), .at (yjnI_43 z) (.fl .f32 (yjnI_44 z)), .at (yjnI_45 z) (.fl .f32 (yjnI_46 z)), .at (yjnI_47 z) (.fl .f32 (yjnI_48 z)), .at true (.as 1 [.sl 0 0 (yjnI_49 z), .sl 1 0 (yjnI_410 z)]), .at true (.as 1 [.sl 2 0 (yjnI_411 z), .sl 3 0 (yjnI_412 z)]), .at true (.as 1 [.nil, .nil]), .at true (.as 1 [.sl 1 0 (yjnI_410 z), .sl 3 1 (((((yjnI_412 z) : Nat) : Int) - 1).toNat)]), .at true (.fl .f32 (yjnI_42 z)), .at true (.fl .f32 ((yjnI_44 z) ++ ((yjnI_48 z).drop 1).take (((((yjnI_412 z) : Nat) : Int) - 1).toNat)))]) | false => none)) (by kernel_rfl) ?_
      rw [hc.2.2]
      try rfl) (by kernel_rfl) (by kernel_rfl) (anjnI_4_43 hc)
  · exact any_one _ (v := .ptr 9 0) tabok_jnI hojnI_4_11 (trivial) (by kernel_rfl) (by kernel_rfl) (by kernel_rfl) (anjnI_4_47 hc)
theorem anjnI_4_49 {z : zjnI_4} (hc : cjnI_4_0 z) : ajnI_4_0 z 0 8191 (qjnI_4_0 z 8191 [(9, .ptr 8 0), (74, .sl 9 0 (yjnI_49 z)), (80, .sl 7 0 2), (81, .sl 10 0 ((yjnI_410 z) + (((((yjnI_412 z) : Nat) : Int) - 1).toNat))), (82, .g [.sl 9 0 (yjnI_49 z), .sl 10 0 ((yjnI_410 z) + (((((yjnI_412 z) : Nat) : Int) - 1).toNat))])]) (HjnI_4_0 z [1, 8, 0, 2]) := ⟨by kernel_rfl, [0, 1, 2, 3, 4, 5, 6, 8, 9, 10], by decide, by decide, by kernel_rfl, by kernel_rfl⟩
theorem anjnI_4_50 {z : zjnI_4} (hc : cjnI_4_0 z) : ajnI_4_0 z 1 4095 (qjnI_4_0 z 4095 [(9, .ptr 8 0), (74, .sl 9 0 (yjnI_49 z)), (80, .sl 7 0 2), (81, .sl 10 0 ((yjnI_410 z) + (((((yjnI_412 z) : Nat) : Int) - 1).toNat))), (82, .g [.sl 9 0 (yjnI_49 z), .sl 10 0 ((yjnI_410 z) + (((((yjnI_412 z) : Nat) : Int) - 1).toNat))])]) (HjnI_4_0 z [1, 4, 0, 2]) := by
  refine any_next [12] (by kernel_rfl) (by decide) fun i hi => ?_
  obtain rfl := two1 hi
  · exact any_one _ (v := vjnI_4_0 z 12) tabok_jnI hojnI_4_12 (trivial) (by kernel_rfl) (by kernel_rfl) (by kernel_rfl) (anjnI_4_49 hc)
theorem anjnI_4_51 {z : zjnI_4} (hc : cjnI_4_0 z) : ajnI_4_0 z 2 3071 (qjnI_4_0 z 3071 [(9, .ptr 8 0), (74, .sl 9 0 (yjnI_49 z)), (80, .sl 7 0 2), (81, .sl 10 0 ((yjnI_410 z) + (((((yjnI_412 z) : Nat) : Int) - 1).toNat)))]) (HjnI_4_0 z [1, 4, 0, 2]) := by
  refine any_next [10] (by kernel_rfl) (by decide) fun i hi => ?_
  obtain rfl := two1 hi
  · exact any_one _ (v := .g [.sl 9 0 (yjnI_49 z), .sl 10 0 ((yjnI_410 z) + (((((yjnI_412 z) : Nat) : Int) - 1).toNat))]) tabok_jnI hojnI_4_10 (trivial) (by kernel_rfl) (by kernel_rfl) (by kernel_rfl) (anjnI_4_50 hc)
theorem anjnI_4_52 {z : zjnI_4} (hc : cjnI_4_0 z) : ajnI_4_0 z 3 2559 (qjnI_4_0 z 2559 [(9, .ptr 8 0), (74, .sl 9 0 (yjnI_49 z)), (80, .sl 7 0 2)]) (HjnI_4_0 z [1, 4, 0]) := by
  refine any_next [9] (by kernel_rfl) (by decide) fun i hi => ?_
  obtain rfl := two1 hi
  · exact any_one _ (v := .sl 10 0 ((yjnI_410 z) + (((((yjnI_412 z) : Nat) : Int) - 1).toNat))) tabok_jnI hojnI_4_9 (trivial) (by
      refine Eq.trans (b := (match decide ((yjnI_44 z).length = (yjnI_410 z) ∧ 1 + (((((yjnI_412 z) : Nat) : Int) - 1).toNat) ≤ (yjnI_48 z).length ∧ 0 < (yjnI_410 z) ∧ (yjnI_410 z) < 1000 ∧ ((((yjnI_412 z) : Nat) : Int) - 1).toNat < 1000) with | true => some ((.sl 10 0 ((yjnI_410 z) + (((((yjnI_412 z) : Nat) : Int) - 1).toNat))), [.at (yjnI_41 z) (.fl .f32 (yjnI_42 z)), .at (yjnI_43 z) (.fl .f32 (yjnI_44 z)), .at (yjnI_45 z) (.fl .f32 (yjnI_46 z)), .at (yjnI_47 z) (.fl .f32 (yjnI_48 z)), .at true (.as 1 [.sl 0 0 (yjnI_49 z), .sl 1 0 (yjnI_410 z)]), .at true (.as 1 [.sl 2 0 (yjnI_411 z), .sl 3 0 (yjnI_412 z)]), .at true (.as 1 [.nil, .nil]), .at true (.as 1 [.sl 1 0 (yjnI_410 z), .sl 3 1 (((((yjnI_412 z) : Nat) : Int) - 1).toNat)]), .at true (.as 1 [.nil, .nil]), .at true (.fl .f32 (yjnI_42 z)), .at true (.fl .f32 ((yjnI_44 z) ++ ((yjnI_48 z).drop 1).take (((((yjnI_412 z) : Nat) : Int) - 1).toNat)))]) | false => none)) (by kernel_rfl) ?_
      rw [hc.2.2]
      try rfl) (by kernel_rfl) (by kernel_rfl) (anjnI_4_51 hc)
theorem anjnI_4_53 {z : zjnI_4} (hc : cjnI_4_0 z) : ajnI_4_0 z 4 2555 (qjnI_4_0 z 2555 [(9, .ptr 8 0), (80, .sl 7 0 2)]) (HjnI_4_0 z [1, 4]) := by
  refine any_next [2] (by kernel_rfl) (by decide) fun i hi => ?_
  obtain rfl := two1 hi
  · exact any_one _ (v := .sl 9 0 (yjnI_49 z)) tabok_jnI hojnI_4_2 (trivial) (by
      refine Eq.trans (b := (match decide ((yjnI_42 z).length = (yjnI_49 z) ∧ 1 ≤ (yjnI_49 z) ∧ (yjnI_49 z) < 2147483648) with | true => some ((.sl 9 0 (yjnI_49 z)), [.at (yjnI_41 z) (.fl .f32 (yjnI_42 z)), .at (yjnI_43 z) (.fl .f32 (yjnI_44 z)), .at (yjnI_45 z) (.fl .f32 (yjnI_46 z)), .at (yjnI_47 z) (.fl .f32 (yjnI_48 z)), .at true (.as 1 [.sl 0 0 (yjnI_49 z), .sl 1 0 (yjnI_410 z)]), .at true (.as 1 [.sl 2 0 (yjnI_411 z), .sl 3 0 (yjnI_412 z)]), .at true (.as 1 [.nil, .nil]), .at true (.as 1 [.sl 1 0 (yjnI_410 z), .sl 3 1 (((((yjnI_412 z) : Nat) : Int) - 1).toNat)]), .at true (.as 1 [.nil, .nil]), .at true (.fl .f32 (yjnI_42 z))]) | false => none)) (by kernel_rfl) ?_
      rw [hc.1]
      try rfl) (by kernel_rfl) (by kernel_rfl) (anjnI_4_52 hc)
theorem anjnI_4_54 {z : zjnI_4} (hc : cjnI_4_0 z) : ajnI_4_0 z 5 507 (qjnI_4_0 z 507 [(80, .sl 7 0 2)]) (HjnI_4_0 z [1]) := by
  refine any_next [2, 11] (by kernel_rfl) (by decide) fun i hi => ?_
  rcases two2 hi with rfl | rfl
  · exact any_one _ (v := .sl 8 0 (yjnI_49 z)) tabok_jnI hojnI_4_2 (trivial) (by
      refine Eq.trans (b := (match decide ((yjnI_42 z).length = (yjnI_49 z) ∧ 1 ≤ (yjnI_49 z) ∧ (yjnI_49 z) < 2147483648) with | true => some ((.sl 8 0 (yjnI_49 z)), [.at (yjnI_41 z) (.fl .f32 (yjnI_42 z)), .at (yjnI_43 z) (.fl .f32 (yjnI_44 z)), .at (yjnI_45 z) (.fl .f32 (yjnI_46 z)), .at (yjnI_47 z) (.fl .f32 (yjnI_48 z)), .at true (.as 1 [.sl 0 0 (yjnI_49 z), .sl 1 0 (yjnI_410 z)]), .at true (.as 1 [.sl 2 0 (yjnI_411 z), .sl 3 0 (yjnI_412 z)]), .at true (.as 1 [.nil, .nil]), .at true (.as 1 [.sl 1 0 (yjnI_410 z), .sl 3 1 (((((yjnI_412 z) : Nat) : Int) - 1).toNat)]), .at true (.fl .f32 (yjnI_42 z))]) | false => none)) (by kernel_rfl) ?_
      rw [hc.1]
      try rfl) (by kernel_rfl) (by kernel_rfl) (anjnI_4_48 hc)
  · exact any_one _ (v := .ptr 8 0) tabok_jnI hojnI_4_11 (trivial) (by kernel_rfl) (by kernel_rfl) (by kernel_rfl) (anjnI_4_53 hc)
theorem anjnI_4_55 {z : zjnI_4} (hc : cjnI_4_0 z) : ajnI_4_0 z 0 8191 (qjnI_4_0 z 8191 [(9, .ptr 7 0), (74, .sl 8 0 (yjnI_49 z)), (80, .sl 9 0 2), (81, .sl 10 0 ((yjnI_410 z) + (((((yjnI_412 z) : Nat) : Int) - 1).toNat))), (82, .g [.sl 8 0 (yjnI_49 z), .sl 10 0 ((yjnI_410 z) + (((((yjnI_412 z) : Nat) : Int) - 1).toNat))])]) (HjnI_4_0 z [7, 0, 1, 2]) := ⟨by kernel_rfl, [0, 1, 2, 3, 4, 5, 6, 7, 8, 10], by decide, by decide, by kernel_rfl, by kernel_rfl⟩
theorem anjnI_4_56 {z : zjnI_4} (hc : cjnI_4_0 z) : ajnI_4_0 z 1 4095 (qjnI_4_0 z 4095 [(9, .ptr 7 0), (74, .sl 8 0 (yjnI_49 z)), (80, .sl 9 0 2), (81, .sl 10 0 ((yjnI_410 z) + (((((yjnI_412 z) : Nat) : Int) - 1).toNat))), (82, .g [.sl 8 0 (yjnI_49 z), .sl 10 0 ((yjnI_410 z) + (((((yjnI_412 z) : Nat) : Int) - 1).toNat))])]) (HjnI_4_0 z [4, 0, 1, 2]) := by
  refine any_next [12] (by kernel_rfl) (by decide) fun i hi => ?_
  obtain rfl := two1 hi
  · exact any_one _ (v := vjnI_4_0 z 12) tabok_jnI hojnI_4_12 (trivial) (by kernel_rfl) (by kernel_rfl) (by kernel_rfl) (anjnI_4_55 hc)
theorem anjnI_4_57 {z : zjnI_4} (hc : cjnI_4_0 z) : ajnI_4_0 z 2 3071 (qjnI_4_0 z 3071 [(9, .ptr 7 0), (74, .sl 8 0 (yjnI_49 z)), (80, .sl 9 0 2), (81, .sl 10 0 ((yjnI_410 z) + (((((yjnI_412 z) : Nat) : Int) - 1).toNat)))]) (HjnI_4_0 z [4, 0, 1, 2]) := by
  refine any_next [10] (by kernel_rfl) (by decide) fun i hi => ?_
  obtain rfl := two1 hi
  · exact any_one _ (v := .g [.sl 8 0 (yjnI_49 z), .sl 10 0 ((yjnI_410 z) + (((((yjnI_412 z) : Nat) : Int) - 1).toNat))]) tabok_jnI hojnI_4_10 (trivial) (by kernel_rfl) (by kernel_rfl) (by kernel_rfl) (anjnI_4_56 hc)
theorem anjnI_4_58 {z : zjnI_4} (hc : cjnI_4_0 z) : ajnI_4_0 z 3 2559 (qjnI_4_0 z 2559 [(9, .ptr 7 0), (74, .sl 8 0 (yjnI_49 z)), (80, .sl 9 0 2)]) (HjnI_4_0 z [4, 0, 1]) := by
  refine any_next [9] (by kernel_rfl) (by decide) fun i hi => ?_
  obtain rfl := two1 hi
  · exact any_one _ (v := .sl 10 0 ((yjnI_410 z) + (((((yjnI_412 z) : Nat) : Int) - 1).toNat))) tabok_jnI hojnI_4_9 (trivial) (by
      refine Eq.trans (b := (match decide ((yjnI_44 z).length = (yjnI_410 z) ∧ 1 + (((((yjnI_412 z) : Nat) : Int) - 1).toNat) ≤ (yjnI_48 z).length ∧ 0 < (yjnI_410 z) ∧ (yjnI_410 z) < 1000 ∧ ((((yjnI_412 z) : Nat) : Int) - 1).toNat < 1000) with | true => some ((.sl 10 0 ((yjnI_410 z) + (((((yjnI_412 z) : Nat) : Int) - 1).toNat))), [.at (yjnI_41 z) (.fl .f32 (yjnI_42 z)), .at (yjnI_43 z) (.fl .f32 (yjnI_44 z)), .at (yjnI_45 z) (.fl .f32 (yjnI_46 z)), .at (yjnI_47 z) (.fl .f32 (yjnI_48 z)), .at true (.as 1 [.sl 0 0 (yjnI_49 z), .sl 1 0 (yjnI_410 z)]), .at true (.as 1 [.sl 2 0 (yjnI_411 z), .sl 3 0 (yjnI_412 z)]), .at true (.as 1 [.nil, .nil]), .at true (.as 1 [.nil, .nil]), .at true (.fl .f32 (yjnI_42 z)), .at true (.as 1 [.sl 1 0 (yjnI_410 z), .sl 3 1 (((((yjnI_412 z) : Nat) : Int) - 1).toNat)]), .at true (.fl .f32 ((yjnI_44 z) ++ ((yjnI_48 z).drop 1).take (((((yjnI_412 z) : Nat) : Int) - 1).toNat)))]) | false => none)) (by kernel_rfl) ?_
      rw [hc.2.2]
      try rfl) (by kernel_rfl) (by kernel_rfl) (anjnI_4_57 hc)
theorem anjnI_4_59 {z : zjnI_4} (hc : cjnI_4_0 z) : ajnI_4_0 z 4 2303 (qjnI_4_0 z 2303 [(9, .ptr 7 0), (74, .sl 8 0 (yjnI_49 z))]) (HjnI_4_0 z [4, 0]) := by
  refine any_next [8] (by kernel_rfl) (by decide) fun i hi => ?_
  obtain rfl := two1 hi
  · exact any_one _ (v := .sl 9 0 2) tabok_jnI hojnI_4_8 (trivial) (by kernel_rfl) (by kernel_rfl) (by kernel_rfl) (anjnI_4_58 hc)
theorem anjnI_4_60 {z : zjnI_4} (hc : cjnI_4_0 z) : ajnI_4_0 z 0 8191 (qjnI_4_0 z 8191 [(9, .ptr 7 0), (74, .sl 9 0 (yjnI_49 z)), (81, .sl 10 0 ((yjnI_410 z) + (((((yjnI_412 z) : Nat) : Int) - 1).toNat))), (82, .g [.sl 9 0 (yjnI_49 z), .sl 10 0 ((yjnI_410 z) + (((((yjnI_412 z) : Nat) : Int) - 1).toNat))])]) (HjnI_4_0 z [8, 1, 0, 2]) := ⟨by kernel_rfl, [0, 1, 2, 3, 4, 5, 6, 7, 9, 10], by decide, by decide, by kernel_rfl, by kernel_rfl⟩
theorem anjnI_4_61 {z : zjnI_4} (hc : cjnI_4_0 z) : ajnI_4_0 z 1 4095 (qjnI_4_0 z 4095 [(9, .ptr 7 0), (74, .sl 9 0 (yjnI_49 z)), (81, .sl 10 0 ((yjnI_410 z) + (((((yjnI_412 z) : Nat) : Int) - 1).toNat))), (82, .g [.sl 9 0 (yjnI_49 z), .sl 10 0 ((yjnI_410 z) + (((((yjnI_412 z) : Nat) : Int) - 1).toNat))])]) (HjnI_4_0 z [4, 1, 0, 2]) := by
  refine any_next [12] (by kernel_rfl) (by decide) fun i hi => ?_
  obtain rfl := two1 hi
  · exact any_one _ (v := vjnI_4_0 z 12) tabok_jnI hojnI_4_12 (trivial) (by kernel_rfl) (by kernel_rfl) (by kernel_rfl) (anjnI_4_60 hc)
theorem anjnI_4_62 {z : zjnI_4} (hc : cjnI_4_0 z) : ajnI_4_0 z 2 3071 (qjnI_4_0 z 3071 [(9, .ptr 7 0), (74, .sl 9 0 (yjnI_49 z)), (81, .sl 10 0 ((yjnI_410 z) + (((((yjnI_412 z) : Nat) : Int) - 1).toNat)))]) (HjnI_4_0 z [4, 1, 0, 2]) := by
  refine any_next [10] (by kernel_rfl) (by decide) fun i hi => ?_
  obtain rfl := two1 hi
  · exact any_one _ (v := .g [.sl 9 0 (yjnI_49 z), .sl 10 0 ((yjnI_410 z) + (((((yjnI_412 z) : Nat) : Int) - 1).toNat))]) tabok_jnI hojnI_4_10 (trivial) (by kernel_rfl) (by kernel_rfl) (by kernel_rfl) (anjnI_4_61 hc)
theorem anjnI_4_63 {z : zjnI_4} (hc : cjnI_4_0 z) : ajnI_4_0 z 3 2559 (qjnI_4_0 z 2559 [(9, .ptr 7 0), (74, .sl 9 0 (yjnI_49 z))]) (HjnI_4_0 z [4, 1, 0]) := by
  refine any_next [9] (by kernel_rfl) (by decide) fun i hi => ?_
  obtain rfl := two1 hi
  · exact any_one _ (v := .sl 10 0 ((yjnI_410 z) + (((((yjnI_412 z) : Nat) : Int) - 1).toNat))) tabok_jnI hojnI_4_9 (trivial) (by
      refine Eq.trans (b := (match decide ((yjnI_44 z).length = (yjnI_410 z) ∧ 1 + (((((yjnI_412 z) : Nat) : Int) - 1).toNat) ≤ (yjnI_48 z).length ∧ 0 < (yjnI_410 z) ∧ (yjnI_410 z) < 1000 ∧ ((((yjnI_412 z) : Nat) : Int) - 1).toNat < 1000) with | true => some ((.sl 10 0 ((yjnI_410 z) + (((((yjnI_412 z) : Nat) : Int) - 1).toNat))), [.at (yjnI_41 z) (.fl .f32 (yjnI_42 z)), .at (yjnI_43 z) (.fl .f32 (yjnI_44 z)), .at (yjnI_45 z) (.fl .f32 (yjnI_46 z)), .at (yjnI_47 z) (.fl .f32 (yjnI_48 z)), .at true (.as 1 [.sl 0 0 (yjnI_49 z), .sl 1 0 (yjnI_410 z)]), .at true (.as 1 [.sl 2 0 (yjnI_411 z), .sl 3 0 (yjnI_412 z)]), .at true (.as 1 [.nil, .nil]), .at true (.as 1 [.nil, .nil]), .at true (.as 1 [.sl 1 0 (yjnI_410 z), .sl 3 1 (((((yjnI_412 z) : Nat) : Int) - 1).toNat)]), .at true (.fl .f32 (yjnI_42 z)), .at true (.fl .f32 ((yjnI_44 z) ++ ((yjnI_48 z).drop 1).take (((((yjnI_412 z) : Nat) : Int) - 1).toNat)))]) | false => none)) (by kernel_rfl) ?_
      rw [hc.2.2]
      try rfl) (by kernel_rfl) (by kernel_rfl) (anjnI_4_62 hc)
theorem anjnI_4_64 {z : zjnI_4} (hc : cjnI_4_0 z) : ajnI_4_0 z 4 2555 (qjnI_4_0 z 2555 [(9, .ptr 7 0)]) (HjnI_4_0 z [4, 1]) := by
  refine any_next [2] (by kernel_rfl) (by decide) fun i hi => ?_
  obtain rfl := two1 hi
  · exact any_one _ (v := .sl 9 0 (yjnI_49 z)) tabok_jnI hojnI_4_2 (trivial) (by
      refine Eq.trans (b := (match decide ((yjnI_42 z).length = (yjnI_49 z) ∧ 1 ≤ (yjnI_49 z) ∧ (yjnI_49 z) < 2147483648) with | true => some ((.sl 9 0 (yjnI_49 z)), [.at (yjnI_41 z) (.fl .f32 (yjnI_42 z)), .at (yjnI_43 z) (.fl .f32 (yjnI_44 z)), .at (yjnI_45 z) (.fl .f32 (yjnI_46 z)), .at (yjnI_47 z) (.fl .f32 (yjnI_48 z)), .at true (.as 1 [.sl 0 0 (yjnI_49 z), .sl 1 0 (yjnI_410 z)]), .at true (.as 1 [.sl 2 0 (yjnI_411 z), .sl 3 0 (yjnI_412 z)]), .at true (.as 1 [.nil, .nil]), .at true (.as 1 [.nil, .nil]), .at true (.as 1 [.sl 1 0 (yjnI_410 z), .sl 3 1 (((((yjnI_412 z) : Nat) : Int) - 1).toNat)]), .at true (.fl .f32 (yjnI_42 z))]) | false => none)) (by kernel_rfl) ?_
      rw [hc.1]
      try rfl) (by kernel_rfl) (by kernel_rfl) (anjnI_4_63 hc)
theorem anjnI_4_65 {z : zjnI_4} (hc : cjnI_4_0 z) : ajnI_4_0 z 5 2299 (qjnI_4_0 z 2299 [(9, .ptr 7 0)]) (HjnI_4_0 z [4]) := by
  refine any_next [2, 8] (by kernel_rfl) (by decide) fun i hi => ?_
  rcases two2 hi with rfl | rfl
  · exact any_one _ (v := .sl 8 0 (yjnI_49 z)) tabok_jnI hojnI_4_2 (trivial) (by
      refine Eq.trans (b := (match decide ((yjnI_42 z).length = (yjnI_49 z) ∧ 1 ≤ (yjnI_49 z) ∧ (yjnI_49 z) < 2147483648) with | true => some ((.sl 8 0 (yjnI_49 z)), [.at (yjnI_41 z) (.fl .f32 (yjnI_42 z)), .at (yjnI_43 z) (.fl .f32 (yjnI_44 z)), .at (yjnI_45 z) (.fl .f32 (yjnI_46 z)), .at (yjnI_47 z) (.fl .f32 (yjnI_48 z)), .at true (.as 1 [.sl 0 0 (yjnI_49 z), .sl 1 0 (yjnI_410 z)]), .at true (.as 1 [.sl 2 0 (yjnI_411 z), .sl 3 0 (yjnI_412 z)]), .at true (.as 1 [.nil, .nil]), .at true (.as 1 [.nil, .nil]), .at true (.fl .f32 (yjnI_42 z))]) | false => none)) (by kernel_rfl) ?_
      rw [hc.1]
      try rfl) (by kernel_rfl) (by kernel_rfl) (anjnI_4_59 hc)
  · exact any_one _ (v := vjnI_4_0 z 8) tabok_jnI hojnI_4_8 (trivial) (by kernel_rfl) (by kernel_rfl) (by kernel_rfl) (anjnI_4_64 hc)
theorem anjnI_4_66 {z : zjnI_4} (hc : cjnI_4_0 z) : ajnI_4_0 z 6 251 (qjnI_4_0 z 251 []) (HjnI_4_0 z []) := by
  refine any_next [2, 8, 11] (by kernel_rfl) (by decide) fun i hi => ?_
  rcases two3 hi with rfl | rfl | rfl
  · exact any_one _ (v := vjnI_4_0 z 2) tabok_jnI hojnI_4_2 (trivial) (by
      refine Eq.trans (b := (match decide ((yjnI_42 z).length = (yjnI_49 z) ∧ 1 ≤ (yjnI_49 z) ∧ (yjnI_49 z) < 2147483648) with | true => some ((.sl 7 0 (yjnI_49 z)), [.at (yjnI_41 z) (.fl .f32 (yjnI_42 z)), .at (yjnI_43 z) (.fl .f32 (yjnI_44 z)), .at (yjnI_45 z) (.fl .f32 (yjnI_46 z)), .at (yjnI_47 z) (.fl .f32 (yjnI_48 z)), .at true (.as 1 [.sl 0 0 (yjnI_49 z), .sl 1 0 (yjnI_410 z)]), .at true (.as 1 [.sl 2 0 (yjnI_411 z), .sl 3 0 (yjnI_412 z)]), .at true (.as 1 [.nil, .nil]), .at true (.fl .f32 (yjnI_42 z))]) | false => none)) (by kernel_rfl) ?_
      rw [hc.1]
      try rfl) (by kernel_rfl) (by kernel_rfl) (anjnI_4_16 hc)
  · exact any_one _ (v := .sl 7 0 2) tabok_jnI hojnI_4_8 (trivial) (by kernel_rfl) (by kernel_rfl) (by kernel_rfl) (anjnI_4_54 hc)
  · exact any_one _ (v := .ptr 7 0) tabok_jnI hojnI_4_11 (trivial) (by kernel_rfl) (by kernel_rfl) (by kernel_rfl) (anjnI_4_65 hc)
theorem anjnI_4_67 {z : zjnI_4} (hc : cjnI_4_0 z) : ajnI_4_0 z 5 2175 (qjnI_4_0 z 2175 [(9, .ptr 7 0), (74, .sl 8 0 (yjnI_49 z))]) (HjnI_4_0 z [4, 0]) := by
  refine any_next [7] (by kernel_rfl) (by decide) fun i hi => ?_
  obtain rfl := two1 hi
  · exact any_one _ (v := vjnI_4_0 z 7) tabok_jnI hojnI_4_7 (trivial) (by
      refine Eq.trans (b := (match decide (0 ≤ (1 : Int) ∧ (1 : Int) ≤ (((yjnI_412 z) : Nat) : Int) ∧ ((((yjnI_412 z) : Nat) : Int) : Int) ≤ (((yjnI_412 z) : Nat) : Int)) with | true => some ((.sl 3 1 (((((yjnI_412 z) : Nat) : Int) - 1).toNat)), [.at (yjnI_41 z) (.fl .f32 (yjnI_42 z)), .at (yjnI_43 z) (.fl .f32 (yjnI_44 z)), .at (yjnI_45 z) (.fl .f32 (yjnI_46 z)), .at (yjnI_47 z) (.fl .f32 (yjnI_48 z)), .at true (.as 1 [.sl 0 0 (yjnI_49 z), .sl 1 0 (yjnI_410 z)]), .at true (.as 1 [.sl 2 0 (yjnI_411 z), .sl 3 0 (yjnI_412 z)]), .at true (.as 1 [.nil, .nil]), .at true (.as 1 [.nil, .nil]), .at true (.fl .f32 (yjnI_42 z))]) | false => none)) (by kernel_rfl) ?_
      rw [hc.2.1]
      try rfl) (by kernel_rfl) (by kernel_rfl) (anjnI_4_59 hc)
theorem anjnI_4_68 {z : zjnI_4} (hc : cjnI_4_0 z) : ajnI_4_0 z 6 2171 (qjnI_4_0 z 2171 [(9, .ptr 7 0)]) (HjnI_4_0 z [4]) := by
  refine any_next [2, 7] (by kernel_rfl) (by decide) fun i hi => ?_
  rcases two2 hi with rfl | rfl
  · exact any_one _ (v := .sl 8 0 (yjnI_49 z)) tabok_jnI hojnI_4_2 (trivial) (by
      refine Eq.trans (b := (match decide ((yjnI_42 z).length = (yjnI_49 z) ∧ 1 ≤ (yjnI_49 z) ∧ (yjnI_49 z) < 2147483648) with | true => some ((.sl 8 0 (yjnI_49 z)), [.at (yjnI_41 z) (.fl .f32 (yjnI_42 z)), .at (yjnI_43 z) (.fl .f32 (yjnI_44 z)), .at (yjnI_45 z) (.fl .f32 (yjnI_46 z)), .at (yjnI_47 z) (.fl .f32 (yjnI_48 z)), .at true (.as 1 [.sl 0 0 (yjnI_49 z), .sl 1 0 (yjnI_410 z)]), .at true (.as 1 [.sl 2 0 (yjnI_411 z), .sl 3 0 (yjnI_412 z)]), .at true (.as 1 [.nil, .nil]), .at true (.as 1 [.nil, .nil]), .at true (.fl .f32 (yjnI_42 z))]) | false => none)) (by kernel_rfl) ?_
      rw [hc.1]
      try rfl) (by kernel_rfl) (by kernel_rfl) (anjnI_4_67 hc)
  · exact any_one _ (v := vjnI_4_0 z 7) tabok_jnI hojnI_4_7 (trivial) (by
      refine Eq.trans (b := (match decide (0 ≤ (1 : Int) ∧ (1 : Int) ≤ (((yjnI_412 z) : Nat) : Int) ∧ ((((yjnI_412 z) : Nat) : Int) : Int) ≤ (((yjnI_412 z) : Nat) : Int)) with | true => some ((.sl 3 1 (((((yjnI_412 z) : Nat) : Int) - 1).toNat)), [.at (yjnI_41 z) (.fl .f32 (yjnI_42 z)), .at (yjnI_43 z) (.fl .f32 (yjnI_44 z)), .at (yjnI_45 z) (.fl .f32 (yjnI_46 z)), .at (yjnI_47 z) (.fl .f32 (yjnI_48 z)), .at true (.as 1 [.sl 0 0 (yjnI_49 z), .sl 1 0 (yjnI_410 z)]), .at true (.as 1 [.sl 2 0 (yjnI_411 z), .sl 3 0 (yjnI_412 z)]), .at true (.as 1 [.nil, .nil]), .at true (.as 1 [.nil, .nil])]) | false => none)) (by kernel_rfl) ?_
      rw [hc.2.1]
      try rfl) (by kernel_rfl) (by kernel_rfl) (anjnI_4_65 hc)
theorem anjnI_4_69 {z : zjnI_4} (hc : cjnI_4_0 z) : ajnI_4_0 z 7 123 (qjnI_4_0 z 123 []) (HjnI_4_0 z []) := by
  refine any_next [2, 7, 11] (by kernel_rfl) (by decide) fun i hi => ?_
  rcases two3 hi with rfl | rfl | rfl
  · exact any_one _ (v := vjnI_4_0 z 2) tabok_jnI hojnI_4_2 (trivial) (by
      refine Eq.trans (b := (match decide ((yjnI_42 z).length = (yjnI_49 z) ∧ 1 ≤ (yjnI_49 z) ∧ (yjnI_49 z) < 2147483648) with | true => some ((.sl 7 0 (yjnI_49 z)), [.at (yjnI_41 z) (.fl .f32 (yjnI_42 z)), .at (yjnI_43 z) (.fl .f32 (yjnI_44 z)), .at (yjnI_45 z) (.fl .f32 (yjnI_46 z)), .at (yjnI_47 z) (.fl .f32 (yjnI_48 z)), .at true (.as 1 [.sl 0 0 (yjnI_49 z), .sl 1 0 (yjnI_410 z)]), .at true (.as 1 [.sl 2 0 (yjnI_411 z), .sl 3 0 (yjnI_412 z)]), .at true (.as 1 [.nil, .nil]), .at true (.fl .f32 (yjnI_42 z))]) | false => none)) (by kernel_rfl) ?_
      rw [hc.1]
      try rfl) (by kernel_rfl) (by kernel_rfl) (anjnI_4_18 hc)
  · exact any_one _ (v := vjnI_4_0 z 7) tabok_jnI hojnI_4_7 (trivial) (by
      refine Eq.trans (b := (match decide (0 ≤ (1 : Int) ∧ (1 : Int) ≤ (((yjnI_412 z) : Nat) : Int) ∧ ((((yjnI_412 z) : Nat) : Int) : Int) ≤ (((yjnI_412 z) : Nat) : Int)) with | true => some ((.sl 3 1 (((((yjnI_412 z) : Nat) : Int) - 1).toNat)), [.at (yjnI_41 z) (.fl .f32 (yjnI_42 z)), .at (yjnI_43 z) (.fl .f32 (yjnI_44 z)), .at (yjnI_45 z) (.fl .f32 (yjnI_46 z)), .at (yjnI_47 z) (.fl .f32 (yjnI_48 z)), .at true (.as 1 [.sl 0 0 (yjnI_49 z), .sl 1 0 (yjnI_410 z)]), .at true (.as 1 [.sl 2 0 (yjnI_411 z), .sl 3 0 (yjnI_412 z)]), .at true (.as 1 [.nil, .nil])]) | false => none)) (by kernel_rfl) ?_
      rw [hc.2.1]
      try rfl) (by kernel_rfl) (by kernel_rfl) (anjnI_4_66 hc)
  · exact any_one _ (v := .ptr 7 0) tabok_jnI hojnI_4_11 (trivial) (by kernel_rfl) (by kernel_rfl) (by kernel_rfl) (anjnI_4_68 hc)
theorem anjnI_4_70 {z : zjnI_4} (hc : cjnI_4_0 z) : ajnI_4_0 z 6 2111 (qjnI_4_0 z 2111 [(9, .ptr 7 0), (74, .sl 8 0 (yjnI_49 z))]) (HjnI_4_0 z [4, 0]) := by
  refine any_next [6] (by kernel_rfl) (by decide) fun i hi => ?_
  obtain rfl := two1 hi
  · exact any_one _ (v := vjnI_4_0 z 6) tabok_jnI hojnI_4_6 (trivial) (by kernel_rfl) (by kernel_rfl) (by kernel_rfl) (anjnI_4_67 hc)
theorem anjnI_4_71 {z : zjnI_4} (hc : cjnI_4_0 z) : ajnI_4_0 z 7 2107 (qjnI_4_0 z 2107 [(9, .ptr 7 0)]) (HjnI_4_0 z [4]) := by
  refine any_next [2, 6] (by kernel_rfl) (by decide) fun i hi => ?_
  rcases two2 hi with rfl | rfl
  · exact any_one _ (v := .sl 8 0 (yjnI_49 z)) tabok_jnI hojnI_4_2 (trivial) (by
      refine Eq.trans (b := (match decide ((yjnI_42 z).length = (yjnI_49 z) ∧ 1 ≤ (yjnI_49 z) ∧ (yjnI_49 z) < 2147483648) with | true => some ((.sl 8 0 (yjnI_49 z)), [.at (yjnI_41 z) (.fl .f32 (yjnI_42 z)), .at (yjnI_43 z) (.fl .f32 (yjnI_44 z)), .at (yjnI_45 z) (.fl .f32 (yjnI_46 z)), .at (yjnI_47 z) (.fl .f32 (yjnI_48 z)), .at true (.as 1 [.sl 0 0 (yjnI_49 z), .sl 1 0 (yjnI_410 z)]), .at true (.as 1 [.sl 2 0 (yjnI_411 z), .sl 3 0 (yjnI_412 z)]), .at true (.as 1 [.nil, .nil]), .at true (.as 1 [.nil, .nil]), .at true (.fl .f32 (yjnI_42 z))]) | false => none)) (by kernel_rfl) ?_
      rw [hc.1]
      try rfl) (by kernel_rfl) (by kernel_rfl) (anjnI_4_70 hc)
  · exact any_one _ (v := vjnI_4_0 z 6) tabok_jnI hojnI_4_6 (trivial) (by kernel_rfl) (by kernel_rfl) (by kernel_rfl) (anjnI_4_68 hc)
theorem anjnI_4_72 {z : zjnI_4} (hc : cjnI_4_0 z) : ajnI_4_0 z 8 59 (qjnI_4_0 z 59 []) (HjnI_4_0 z []) := by
  refine any_next [2, 6, 11] (by kernel_rfl) (by decide) fun i hi => ?_
  rcases two3 hi with rfl | rfl | rfl
  · exact any_one _ (v := vjnI_4_0 z 2) tabok_jnI hojnI_4_2 (trivial) (by
      refine Eq.trans (b := (match decide ((yjnI_42 z).length = (yjnI_49 z) ∧ 1 ≤ (yjnI_49 z) ∧ (yjnI_49 z) < 2147483648) with | true => some ((.sl 7 0 (yjnI_49 z)), [.at (yjnI_41 z) (.fl .f32 (yjnI_42 z)), .at (yjnI_43 z) (.fl .f32 (yjnI_44 z)), .at (yjnI_45 z) (.fl .f32 (yjnI_46 z)), .at (yjnI_47 z) (.fl .f32 (yjnI_48 z)), .at true (.as 1 [.sl 0 0 (yjnI_49 z), .sl 1 0 (yjnI_410 z)]), .at true (.as 1 [.sl 2 0 (yjnI_411 z), .sl 3 0 (yjnI_412 z)]), .at true (.as 1 [.nil, .nil]), .at true (.fl .f32 (yjnI_42 z))]) | false => none)) (by kernel_rfl) ?_
      rw [hc.1]
      try rfl) (by kernel_rfl) (by kernel_rfl) (anjnI_4_20 hc)
  · exact any_one _ (v := vjnI_4_0 z 6) tabok_jnI hojnI_4_6 (trivial) (by kernel_rfl) (by kernel_rfl) (by kernel_rfl) (anjnI_4_69 hc)
  · exact any_one _ (v := .ptr 7 0) tabok_jnI hojnI_4_11 (trivial) (by kernel_rfl) (by kernel_rfl) (by kernel_rfl) (anjnI_4_71 hc)
theorem anjnI_4_73 {z : zjnI_4} (hc : cjnI_4_0 z) : ajnI_4_0 z 7 2079 (qjnI_4_0 z 2079 [(9, .ptr 7 0), (74, .sl 8 0 (yjnI_49 z))]) (HjnI_4_0 z [4, 0]) := by
  refine any_next [5] (by kernel_rfl) (by decide) fun i hi => ?_
  obtain rfl := two1 hi
  · exact any_one _ (v := vjnI_4_0 z 5) tabok_jnI hojnI_4_5 (trivial) (by kernel_rfl) (by kernel_rfl) (by kernel_rfl) (anjnI_4_70 hc)
theorem anjnI_4_74 {z : zjnI_4} (hc : cjnI_4_0 z) : ajnI_4_0 z 8 2075 (qjnI_4_0 z 2075 [(9, .ptr 7 0)]) (HjnI_4_0 z [4]) := by
  refine any_next [2, 5] (by kernel_rfl) (by decide) fun i hi => ?_
  rcases two2 hi with rfl | rfl
  · exact any_one _ (v := .sl 8 0 (yjnI_49 z)) tabok_jnI hojnI_4_2 (trivial) (by
      refine Eq.trans (b := (match decide ((yjnI_42 z).length = (yjnI_49 z) ∧ 1 ≤ (yjnI_49 z) ∧ (yjnI_49 z) < 2147483648) with | true => some ((.sl 8 0 (yjnI_49 z)), [.at (yjnI_41 z) (.fl .f32 (yjnI_42 z)), .at (yjnI_43 z) (.fl .f32 (yjnI_44 z)), .at (yjnI_45 z) (.fl .f32 (yjnI_46 z)), .at (yjnI_47 z) (.fl .f32 (yjnI_48 z)), .at true (.as 1 [.sl 0 0 (yjnI_49 z), .sl 1 0 (yjnI_410 z)]), .at true (.as 1 [.sl 2 0 (yjnI_411 z), .sl 3 0 (yjnI_412 z)]), .at true (.as 1 [.nil, .nil]), .at true (.as 1 [.nil, .nil]), .at true (.fl .f32 (yjnI_42 z))]) | false => none)) (by kernel_rfl) ?_
      rw [hc.1]
      try rfl) (by kernel_rfl) (by kernel_rfl) (anjnI_4_73 hc)
  · exact any_one _ (v := vjnI_4_0 z 5) tabok_jnI hojnI_4_5 (trivial) (by kernel_rfl) (by kernel_rfl) (by kernel_rfl) (anjnI_4_71 hc)
theorem anjnI_4_75 {z : zjnI_4} (hc : cjnI_4_0 z) : ajnI_4_0 z 9 27 (qjnI_4_0 z 27 []) (HjnI_4_0 z []) := by
  refine any_next [2, 5, 11] (by kernel_rfl) (by decide) fun i hi => ?_
  rcases two3 hi with rfl | rfl | rfl
  · exact any_one _ (v := vjnI_4_0 z 2) tabok_jnI hojnI_4_2 (trivial) (by
      refine Eq.trans (b := (match decide ((yjnI_42 z).length = (yjnI_49 z) ∧ 1 ≤ (yjnI_49 z) ∧ (yjnI_49 z) < 2147483648) with | true => some ((.sl 7 0 (yjnI_49 z)), [.at (yjnI_41 z) (.fl .f32 (yjnI_42 z)), .at (yjnI_43 z) (.fl .f32 (yjnI_44 z)), .at (yjnI_45 z) (.fl .f32 (yjnI_46 z)), .at (yjnI_47 z) (.fl .f32 (yjnI_48 z)), .at true (.as 1 [.sl 0 0 (yjnI_49 z), .sl 1 0 (yjnI_410 z)]), .at true (.as 1 [.sl 2 0 (yjnI_411 z), .sl 3 0 (yjnI_412 z)]), .at true (.as 1 [.nil, .nil]), .at true (.fl .f32 (yjnI_42 z))]) | false => none)) (by kernel_rfl) ?_
      rw [hc.1]
      try rfl) (by kernel_rfl) (by kernel_rfl) (anjnI_4_22 hc)
  · exact any_one _ (v := vjnI_4_0 z 5) tabok_jnI hojnI_4_5 (trivial) (by kernel_rfl) (by kernel_rfl) (by kernel_rfl) (anjnI_4_72 hc)
  · exact any_one _ (v := .ptr 7 0) tabok_jnI hojnI_4_11 (trivial) (by kernel_rfl) (by kernel_rfl) (by kernel_rfl) (anjnI_4_74 hc)
theorem anjnI_4_76 {z : zjnI_4} (hc : cjnI_4_0 z) : ajnI_4_0 z 5 2287 (qjnI_4_0 z 2287 [(9, .ptr 7 0), (74, .sl 8 0 (yjnI_49 z))]) (HjnI_4_0 z [4, 0]) := by
  refine any_next [4] (by kernel_rfl) (by decide) fun i hi => ?_
  obtain rfl := two1 hi
  · exact any_one _ (v := vjnI_4_0 z 4) tabok_jnI hojnI_4_4 (trivial) (by kernel_rfl) (by kernel_rfl) (by kernel_rfl) (anjnI_4_59 hc)
theorem anjnI_4_77 {z : zjnI_4} (hc : cjnI_4_0 z) : ajnI_4_0 z 6 2283 (qjnI_4_0 z 2283 [(9, .ptr 7 0)]) (HjnI_4_0 z [4]) := by
  refine any_next [2, 4] (by kernel_rfl) (by decide) fun i hi => ?_
  rcases two2 hi with rfl | rfl
  · exact any_one _ (v := .sl 8 0 (yjnI_49 z)) tabok_jnI hojnI_4_2 (trivial) (by
      refine Eq.trans (b := (match decide ((yjnI_42 z).length = (yjnI_49 z) ∧ 1 ≤ (yjnI_49 z) ∧ (yjnI_49 z) < 2147483648) with | true => some ((.sl 8 0 (yjnI_49 z)), [.at (yjnI_41 z) (.fl .f32 (yjnI_42 z)), .at (yjnI_43 z) (.fl .f32 (yjnI_44 z)), .at (yjnI_45 z) (.fl .f32 (yjnI_46 z)), .at (yjnI_47 z) (.fl .f32 (yjnI_48 z)), .at true (.as 1 [.sl 0 0 (yjnI_49 z), .sl 1 0 (yjnI_410 z)]), .at true (.as 1 [.sl 2 0 (yjnI_411 z), .sl 3 0 (yjnI_412 z)]), .at true (.as 1 [.nil, .nil]), .at true (.as 1 [.nil, .nil]), .at true (.fl .f32 (yjnI_42 z))]) | false => none)) (by kernel_rfl) ?_
      rw [hc.1]
      try rfl) (by kernel_rfl) (by kernel_rfl) (anjnI_4_76 hc)
  · exact any_one _ (v := vjnI_4_0 z 4) tabok_jnI hojnI_4_4 (trivial) (by kernel_rfl) (by kernel_rfl) (by kernel_rfl) (anjnI_4_65 hc)
theorem anjnI_4_78 {z : zjnI_4} (hc : cjnI_4_0 z) : ajnI_4_0 z 7 235 (qjnI_4_0 z 235 []) (HjnI_4_0 z []) := by
  refine any_next [2, 4, 11] (by kernel_rfl) (by decide) fun i hi => ?_
  rcases two3 hi with rfl | rfl | rfl
  · exact any_one _ (v := vjnI_4_0 z 2) tabok_jnI hojnI_4_2 (trivial) (by
      refine Eq.trans (b := (match decide ((yjnI_42 z).length = (yjnI_49 z) ∧ 1 ≤ (yjnI_49 z) ∧ (yjnI_49 z) < 2147483648) with | true => some ((.sl 7 0 (yjnI_49 z)), [.at (yjnI_41 z) (.fl .f32 (yjnI_42 z)), .at (yjnI_43 z) (.fl .f32 (yjnI_44 z)), .at (yjnI_45 z) (.fl .f32 (yjnI_46 z)), .at (yjnI_47 z) (.fl .f32 (yjnI_48 z)), .at true (.as 1 [.sl 0 0 (yjnI_49 z), .sl 1 0 (yjnI_410 z)]), .at true (.as 1 [.sl 2 0 (yjnI_411 z), .sl 3 0 (yjnI_412 z)]), .at true (.as 1 [.nil, .nil]), .at true (.fl .f32 (yjnI_42 z))]) | false => none)) (by kernel_rfl) ?_
      rw [hc.1]
      try rfl) (by kernel_rfl) (by kernel_rfl) (anjnI_4_24 hc)
  · exact any_one _ (v := vjnI_4_0 z 4) tabok_jnI hojnI_4_4 (trivial) (by kernel_rfl) (by kernel_rfl) (by kernel_rfl) (anjnI_4_66 hc)
  · exact any_one _ (v := .ptr 7 0) tabok_jnI hojnI_4_11 (trivial) (by kernel_rfl) (by kernel_rfl) (by kernel_rfl) (anjnI_4_77 hc)
theorem anjnI_4_79 {z : zjnI_4} (hc : cjnI_4_0 z) : ajnI_4_0 z 6 2159 (qjnI_4_0 z 2159 [(9, .ptr 7 0), (74, .sl 8 0 (yjnI_49 z))]) (HjnI_4_0 z [4, 0]) := by
  refine any_next [4, 7] (by kernel_rfl) (by decide) fun i hi => ?_
  rcases two2 hi with rfl | rfl
  · exact any_one _ (v := vjnI_4_0 z 4) tabok_jnI hojnI_4_4 (trivial) (by kernel_rfl) (by kernel_rfl) (by kernel_rfl) (anjnI_4_67 hc)
  · exact any_one _ (v := vjnI_4_0 z 7) tabok_jnI hojnI_4_7 (trivial) (by
      refine Eq.trans (b := (match decide (0 ≤ (1 : Int) ∧ (1 : Int) ≤ (((yjnI_412 z) : Nat) : Int) ∧ ((((yjnI_412 z) : Nat) : Int) : Int) ≤ (((yjnI_412 z) : Nat) : Int)) with | true => some ((.sl 3 1 (((((yjnI_412 z) : Nat) : Int) - 1).toNat)), [.at (yjnI_41 z) (.fl .f32 (yjnI_42 z)), .at (yjnI_43 z) (.fl .f32 (yjnI_44 z)), .at (yjnI_45 z) (.fl .f32 (yjnI_46 z)), .at (yjnI_47 z) (.fl .f32 (yjnI_48 z)), .at true (.as 1 [.sl 0 0 (yjnI_49 z), .sl 1 0 (yjnI_410 z)]), .at true (.as 1 [.sl 2 0 (yjnI_411 z), .sl 3 0 (yjnI_412 z)]), .at true (.as 1 [.nil, .nil]), .at true (.as 1 [.nil, .nil]), .at true (.fl .f32 (yjnI_42 z))]) | false => none)) (by kernel_rfl) ?_
      rw [hc.2.1]
      try rfl) (by kernel_rfl) (by kernel_rfl) (anjnI_4_76 hc)
theorem anjnI_4_80 {z : zjnI_4} (hc : cjnI_4_0 z) : ajnI_4_0 z 7 2155 (qjnI_4_0 z 2155 [(9, .ptr 7 0)]) (HjnI_4_0 z [4]) := by
  refine any_next [2, 4, 7] (by kernel_rfl) (by decide) fun i hi => ?_
  rcases two3 hi with rfl | rfl | rfl
  · exact any_one _ (v := .sl 8 0 (yjnI_49 z)) tabok_jnI hojnI_4_2 (trivial) (by
      refine Eq.trans (b := (match decide ((yjnI_42 z).length = (yjnI_49 z) ∧ 1 ≤ (yjnI_49 z) ∧ (yjnI_49 z) < 2147483648) with | true => some ((.sl 8 0 (yjnI_49 z)), [.at (yjnI_41 z) (.fl .f32 (yjnI_42 z)), .at (yjnI_43 z) (.fl .f32 (yjnI_44 z)), .at (yjnI_45 z) (.fl .f32 (yjnI_46 z)), .at (yjnI_47 z) (.fl .f32 (yjnI_48 z)), .at true (.as 1 [.sl 0 0 (yjnI_49 z), .sl 1 0 (yjnI_410 z)]), .at true (.as 1 [.sl 2 0 (yjnI_411 z), .sl 3 0 (yjnI_412 z)]), .at true (.as 1 [.nil, .nil]), .at true (.as 1 [.nil, .nil]), .at true (.fl .f32 (yjnI_42 z))]) | false => none)) (by kernel_rfl) ?_
      rw [hc.1]
      try rfl) (by kernel_rfl) (by kernel_rfl) (anjnI_4_79 hc)
  · exact any_one _ (v := vjnI_4_0 z 4) tabok_jnI hojnI_4_4 (trivial) (by kernel_rfl) (by kernel_rfl) (by kernel_rfl) (anjnI_4_68 hc)
  · exact any_one _ (v := vjnI_4_0 z 7) tabok_jnI hojnI_4_7 (trivial) (by
      refine Eq.trans (b := (match decide (0 ≤ (1 : Int) ∧ (1 : Int) ≤ (((yjnI_412 z) : Nat) : Int) ∧ ((((yjnI_412 z) : Nat) : Int) : Int) ≤ (((yjnI_412 z) : Nat) : Int)) with | true => some ((.sl 3 1 (((((yjnI_412 z) : Nat) : Int) - 1).toNat)), [.at (yjnI_41 z) (.fl .f32 (yjnI_42 z)), .at (yjnI_43 z) (.fl .f32 (yjnI_44 z)), .at (yjnI_45 z) (.fl .f32 (yjnI_46 z)), .at (yjnI_47 z) (.fl .f32 (yjnI_48 z)), .at true (.as 1 [.sl 0 0 (yjnI_49 z), .sl 1 0 (yjnI_410 z)]), .at true (.as 1 [.sl 2 0 (yjnI_411 z), .sl 3 0 (yjnI_412 z)]), .at true (.as 1 [.nil, .nil]), .at true (.as 1 [.nil, .nil])]) | false => none)) (by kernel_rfl) ?_
      rw [hc.2.1]
      try rfl) (by kernel_rfl) (by kernel_rfl) (anjnI_4_77 hc)
theorem anjnI_4_81 {z : zjnI_4} (hc : cjnI_4_0 z) : ajnI_4_0 z 8 107 (qjnI_4_0 z 107 []) (HjnI_4_0 z []) := by
  refine any_next [2, 4, 7, 11] (by kernel_rfl) (by decide) fun i hi => ?_
  rcases two4 hi with rfl | rfl | rfl | rfl
  · exact any_one _ (v := vjnI_4_0 z 2) tabok_jnI hojnI_4_2 (trivial) (by
      refine Eq.trans (b := (match decide ((yjnI_42 z).length = (yjnI_49 z) ∧ 1 ≤ (yjnI_49 z) ∧ (yjnI_49 z) < 2147483648) with | true => some ((.sl 7 0 (yjnI_49 z)), [.at (yjnI_41 z) (.fl .f32 (yjnI_42 z)), .at (yjnI_43 z) (.fl .f32 (yjnI_44 z)), .at (yjnI_45 z) (.fl .f32 (yjnI_46 z)), .at (yjnI_47 z) (.fl .f32 (yjnI_48 z)), .at true (.as 1 [.sl 0 0 (yjnI_49 z), .sl 1 0 (yjnI_410 z)]), .at true (.as 1 [.sl 2 0 (yjnI_411 z), .sl 3 0 (yjnI_412 z)]), .at true (.as 1 [.nil, .nil]), .at true (.fl .f32 (yjnI_42 z))]) | false => none)) (by kernel_rfl) ?_
      rw [hc.1]
      try rfl) (by kernel_rfl) (by kernel_rfl) (anjnI_4_26 hc)
  · exact any_one _ (v := vjnI_4_0 z 4) tabok_jnI hojnI_4_4 (trivial) (by kernel_rfl) (by kernel_rfl) (by kernel_rfl) (anjnI_4_69 hc)
  · exact any_one _ (v := vjnI_4_0 z 7) tabok_jnI hojnI_4_7 (trivial) (by
      refine Eq.trans (b := (match decide (0 ≤ (1 : Int) ∧ (1 : Int) ≤ (((yjnI_412 z) : Nat) : Int) ∧ ((((yjnI_412 z) : Nat) : Int) : Int) ≤ (((yjnI_412 z) : Nat) : Int)) with | true => some ((.sl 3 1 (((((yjnI_412 z) : Nat) : Int) - 1).toNat)), [.at (yjnI_41 z) (.fl .f32 (yjnI_42 z)), .at (yjnI_43 z) (.fl .f32 (yjnI_44 z)), .at (yjnI_45 z) (.fl .f32 (yjnI_46 z)), .at (yjnI_47 z) (.fl .f32 (yjnI_48 z)), .at true (.as 1 [.sl 0 0 (yjnI_49 z), .sl 1 0 (yjnI_410 z)]), .at true (.as 1 [.sl 2 0 (yjnI_411 z), .sl 3 0 (yjnI_412 z)]), .at true (.as 1 [.nil, .nil])]) | false => none)) (by kernel_rfl) ?_
      rw [hc.2.1]
      try rfl) (by kernel_rfl) (by kernel_rfl) (anjnI_4_78 hc)
  · exact any_one _ (v := .ptr 7 0) tabok_jnI hojnI_4_11 (trivial) (by kernel_rfl) (by kernel_rfl) (by kernel_rfl) (anjnI_4_80 hc)
theorem anjnI_4_82 {z : zjnI_4} (hc : cjnI_4_0 z) : ajnI_4_0 z 7 2095 (qjnI_4_0 z 2095 [(9, .ptr 7 0), (74, .sl 8 0 (yjnI_49 z))]) (HjnI_4_0 z [4, 0]) := by
  refine any_next [4, 6] (by kernel_rfl) (by decide) fun i hi => ?_
  rcases two2 hi with rfl | rfl
  · exact any_one _ (v := vjnI_4_0 z 4) tabok_jnI hojnI_4_4 (trivial) (by kernel_rfl) (by kernel_rfl) (by kernel_rfl) (anjnI_4_70 hc)
  · exact any_one _ (v := vjnI_4_0 z 6) tabok_jnI hojnI_4_6 (trivial) (by kernel_rfl) (by kernel_rfl) (by kernel_rfl) (anjnI_4_79 hc)
theorem anjnI_4_83 {z : zjnI_4} (hc : cjnI_4_0 z) : ajnI_4_0 z 8 2091 (qjnI_4_0 z 2091 [(9, .ptr 7 0)]) (HjnI_4_0 z [4]) := by
  refine any_next [2, 4, 6] (by kernel_rfl) (by decide) fun i hi => ?_
  rcases two3 hi with rfl | rfl | rfl
  · exact any_one _ (v := .sl 8 0 (yjnI_49 z)) tabok_jnI hojnI_4_2 (trivial) (by
      refine Eq.trans (b := (match decide ((yjnI_42 z).length = (yjnI_49 z) ∧ 1 ≤ (yjnI_49 z) ∧ (yjnI_49 z) < 2147483648) with | true => some ((.sl 8 0 (yjnI_49 z)), [.at (yjnI_41 z) (.fl .f32 (yjnI_42 z)), .at (yjnI_43 z) (.fl .f32 (yjnI_44 z)), .at (yjnI_45 z) (.fl .f32 (yjnI_46 z)), .at (yjnI_47 z) (.fl .f32 (yjnI_48 z)), .at true (.as 1 [.sl 0 0 (yjnI_49 z), .sl 1 0 (yjnI_410 z)]), .at true (.as 1 [.sl 2 0 (yjnI_411 z), .sl 3 0 (yjnI_412 z)]), .at true (.as 1 [.nil, .nil]), .at true (.as 1 [.nil, .nil]), .at true (.fl .f32 (yjnI_42 z))]) | false => none)) (by kernel_rfl) ?_
      rw [hc.1]
      try rfl) (by kernel_rfl) (by kernel_rfl) (anjnI_4_82 hc)
  · exact any_one _ (v := vjnI_4_0 z 4) tabok_jnI hojnI_4_4 (trivial) (by kernel_rfl) (by kernel_rfl) (by kernel_rfl) (anjnI_4_71 hc)
  · exact any_one _ (v := vjnI_4_0 z 6) tabok_jnI hojnI_4_6 (trivial) (by kernel_rfl) (by kernel_rfl) (by kernel_rfl) (anjnI_4_80 hc)
theorem anjnI_4_84 {z : zjnI_4} (hc : cjnI_4_0 z) : ajnI_4_0 z 9 43 (qjnI_4_0 z 43 []) (HjnI_4_0 z []) := by
  refine any_next [2, 4, 6, 11] (by kernel_rfl) (by decide) fun i hi => ?_
  rcases two4 hi with rfl | rfl | rfl | rfl
  · exact any_one _ (v := vjnI_4_0 z 2) tabok_jnI hojnI_4_2 (trivial) (by
      refine Eq.trans (b := (match decide ((yjnI_42 z).length = (yjnI_49 z) ∧ 1 ≤ (yjnI_49 z) ∧ (yjnI_49 z) < 2147483648) with | true => some ((.sl 7 0 (yjnI_49 z)), [.at (yjnI_41 z) (.fl .f32 (yjnI_42 z)), .at (yjnI_43 z) (.fl .f32 (yjnI_44 z)), .at (yjnI_45 z) (.fl .f32 (yjnI_46 z)), .at (yjnI_47 z) (.fl .f32 (yjnI_48 z)), .at true (.as 1 [.sl 0 0 (yjnI_49 z), .sl 1 0 (yjnI_410 z)]), .at true (.as 1 [.sl 2 0 (yjnI_411 z), .sl 3 0 (yjnI_412 z)]), .at true (.as 1 [.nil, .nil]), .at true (.fl .f32 (yjnI_42 z))]) | false => none)) (by kernel_rfl) ?_
      rw [hc.1]
      try rfl) (by kernel_rfl) (by kernel_rfl) (anjnI_4_28 hc)
  · exact any_one _ (v := vjnI_4_0 z 4) tabok_jnI hojnI_4_4 (trivial) (by kernel_rfl) (by kernel_rfl) (by kernel_rfl) (anjnI_4_72 hc)
  · exact any_one _ (v := vjnI_4_0 z 6) tabok_jnI hojnI_4_6 (trivial) (by kernel_rfl) (by kernel_rfl) (by kernel_rfl) (anjnI_4_81 hc)
  · exact any_one _ (v := .ptr 7 0) tabok_jnI hojnI_4_11 (trivial) (by kernel_rfl) (by kernel_rfl) (by kernel_rfl) (anjnI_4_83 hc)
theorem anjnI_4_85 {z : zjnI_4} (hc : cjnI_4_0 z) : ajnI_4_0 z 8 2063 (qjnI_4_0 z 2063 [(9, .ptr 7 0), (74, .sl 8 0 (yjnI_49 z))]) (HjnI_4_0 z [4, 0]) := by
  refine any_next [4, 5] (by kernel_rfl) (by decide) fun i hi => ?_
  rcases two2 hi with rfl | rfl
  · exact any_one _ (v := vjnI_4_0 z 4) tabok_jnI hojnI_4_4 (trivial) (by kernel_rfl) (by kernel_rfl) (by kernel_rfl) (anjnI_4_73 hc)
  · exact any_one _ (v := vjnI_4_0 z 5) tabok_jnI hojnI_4_5 (trivial) (by kernel_rfl) (by kernel_rfl) (by kernel_rfl) (anjnI_4_82 hc)
theorem anjnI_4_86 {z : zjnI_4} (hc : cjnI_4_0 z) : ajnI_4_0 z 9 2059 (qjnI_4_0 z 2059 [(9, .ptr 7 0)]) (HjnI_4_0 z [4]) := by
  refine any_next [2, 4, 5] (by kernel_rfl) (by decide) fun i hi => ?_
  rcases two3 hi with rfl | rfl | rfl
  · exact any_one _ (v := .sl 8 0 (yjnI_49 z)) tabok_jnI hojnI_4_2 (trivial) (by
      refine Eq.trans (b := (match decide ((yjnI_42 z).length = (yjnI_49 z) ∧ 1 ≤ (yjnI_49 z) ∧ (yjnI_49 z) < 2147483648) with | true => some ((.sl 8 0 (yjnI_49 z)), [.at (yjnI_41 z) (.fl .f32 (yjnI_42 z)), .at (yjnI_43 z) (.fl .f32 (yjnI_44 z)), .at (yjnI_45 z) (.fl .f32 (yjnI_46 z)), .at (yjnI_47 z) (.fl .f32 (yjnI_48 z)), .at true (.as 1 [.sl 0 0 (yjnI_49 z), .sl 1 0 (yjnI_410 z)]), .at true (.as 1 [.sl 2 0 (yjnI_411 z), .sl 3 0 (yjnI_412 z)]), .at true (.as 1 [.nil, .nil]), .at true (.as 1 [.nil, .nil]), .at true (.fl .f32 (yjnI_42 z))]) | false => none)) (by kernel_rfl) ?_
      rw [hc.1]
      try rfl) (by kernel_rfl) (by kernel_rfl) (anjnI_4_85 hc)
  · exact any_one _ (v := vjnI_4_0 z 4) tabok_jnI hojnI_4_4 (trivial) (by kernel_rfl) (by kernel_rfl) (by kernel_rfl) (anjnI_4_74 hc)
  · exact any_one _ (v := vjnI_4_0 z 5) tabok_jnI hojnI_4_5 (trivial) (by kernel_rfl) (by kernel_rfl) (by kernel_rfl) (anjnI_4_83 hc)
theorem anjnI_4_87 {z : zjnI_4} (hc : cjnI_4_0 z) : ajnI_4_0 z 10 11 (qjnI_4_0 z 11 []) (HjnI_4_0 z []) := by
  refine any_next [2, 4, 5, 11] (by kernel_rfl) (by decide) fun i hi => ?_
  rcases two4 hi with rfl | rfl | rfl | rfl
  · exact any_one _ (v := vjnI_4_0 z 2) tabok_jnI hojnI_4_2 (trivial) (by
      refine Eq.trans (b := (match decide ((yjnI_42 z).length = (yjnI_49 z) ∧ 1 ≤ (yjnI_49 z) ∧ (yjnI_49 z) < 2147483648) with | true => some ((.sl 7 0 (yjnI_49 z)), [.at (yjnI_41 z) (.fl .f32 (yjnI_42 z)), .at (yjnI_43 z) (.fl .f32 (yjnI_44 z)), .at (yjnI_45 z) (.fl .f32 (yjnI_46 z)), .at (yjnI_47 z) (.fl .f32 (yjnI_48 z)), .at true (.as 1 [.sl 0 0 (yjnI_49 z), .sl 1 0 (yjnI_410 z)]), .at true (.as 1 [.sl 2 0 (yjnI_411 z), .sl 3 0 (yjnI_412 z)]), .at true (.as 1 [.nil, .nil]), .at true (.fl .f32 (yjnI_42 z))]) | false => none)) (by kernel_rfl) ?_
      rw [hc.1]
      try rfl) (by kernel_rfl) (by kernel_rfl) (anjnI_4_30 hc)
  · exact any_one _ (v := vjnI_4_0 z 4) tabok_jnI hojnI_4_4 (trivial) (by kernel_rfl) (by kernel_rfl) (by kernel_rfl) (anjnI_4_75 hc)
  · exact any_one _ (v := vjnI_4_0 z 5) tabok_jnI hojnI_4_5 (trivial) (by kernel_rfl) (by kernel_rfl) (by kernel_rfl) (anjnI_4_84 hc)
  · exact any_one _ (v := .ptr 7 0) tabok_jnI hojnI_4_11 (trivial) (by kernel_rfl) (by kernel_rfl) (by kernel_rfl) (anjnI_4_86 hc)
theorem anjnI_4_88 {z : zjnI_4} (hc : cjnI_4_0 z) : ajnI_4_0 z 6 2279 (qjnI_4_0 z 2279 [(9, .ptr 7 0), (74, .sl 8 0 (yjnI_49 z))]) (HjnI_4_0 z [4, 0]) := by
  refine any_next [3] (by kernel_rfl) (by decide) fun i hi => ?_
  obtain rfl := two1 hi
  · exact any_one _ (v := vjnI_4_0 z 3) tabok_jnI hojnI_4_3 (trivial) (by kernel_rfl) (by kernel_rfl) (by kernel_rfl) (anjnI_4_76 hc)
theorem anjnI_4_89 {z : zjnI_4} (hc : cjnI_4_0 z) : ajnI_4_0 z 7 2275 (qjnI_4_0 z 2275 [(9, .ptr 7 0)]) (HjnI_4_0 z [4]) := by
  refine any_next [2, 3] (by kernel_rfl) (by decide) fun i hi => ?_
  rcases two2 hi with rfl | rfl
  · exact any_one _ (v := .sl 8 0 (yjnI_49 z)) tabok_jnI hojnI_4_2 (trivial) (by
      refine Eq.trans (b := (match decide ((yjnI_42 z).length = (yjnI_49 z) ∧ 1 ≤ (yjnI_49 z) ∧ (yjnI_49 z) < 2147483648) with | true => some ((.sl 8 0 (yjnI_49 z)), [.at (yjnI_41 z) (.fl .f32 (yjnI_42 z)), .at (yjnI_43 z) (.fl .f32 (yjnI_44 z)), .at (yjnI_45 z) (.fl .f32 (yjnI_46 z)), .at (yjnI_47 z) (.fl .f32 (yjnI_48 z)), .at true (.as 1 [.sl 0 0 (yjnI_49 z), .sl 1 0 (yjnI_410 z)]), .at true (.as 1 [.sl 2 0 (yjnI_411 z), .sl 3 0 (yjnI_412 z)]), .at true (.as 1 [.nil, .nil]), .at true (.as 1 [.nil, .nil]), .at true (.fl .f32 (yjnI_42 z))]) | false => none)) (by kernel_rfl) ?_
      rw [hc.1]
      try rfl) (by kernel_rfl) (by kernel_rfl) (anjnI_4_88 hc)
  · exact any_one _ (v := vjnI_4_0 z 3) tabok_jnI hojnI_4_3 (trivial) (by kernel_rfl) (by kernel_rfl) (by kernel_rfl) (anjnI_4_77 hc)
theorem anjnI_4_90 {z : zjnI_4} (hc : cjnI_4_0 z) : ajnI_4_0 z 8 227 (qjnI_4_0 z 227 []) (HjnI_4_0 z []) := by
  refine any_next [2, 3, 11] (by kernel_rfl) (by decide) fun i hi => ?_
  rcases two3 hi with rfl | rfl | rfl
  · exact any_one _ (v := vjnI_4_0 z 2) tabok_jnI hojnI_4_2 (trivial) (by
      refine Eq.trans (b := (match decide ((yjnI_42 z).length = (yjnI_49 z) ∧ 1 ≤ (yjnI_49 z) ∧ (yjnI_49 z) < 2147483648) with | true => some ((.sl 7 0 (yjnI_49 z)), [.at (yjnI_41 z) (.fl .f32 (yjnI_42 z)), .at (yjnI_43 z) (.fl .f32 (yjnI_44 z)), .at (yjnI_45 z) (.fl .f32 (yjnI_46 z)), .at (yjnI_47 z) (.fl .f32 (yjnI_48 z)), .at true (.as 1 [.sl 0 0 (yjnI_49 z), .sl 1 0 (yjnI_410 z)]), .at true (.as 1 [.sl 2 0 (yjnI_411 z), .sl 3 0 (yjnI_412 z)]), .at true (.as 1 [.nil, .nil]), .at true (.fl .f32 (yjnI_42 z))]) | false => none)) (by kernel_rfl) ?_
      rw [hc.1]
      try rfl) (by kernel_rfl) (by kernel_rfl) (anjnI_4_32 hc)
  · exact any_one _ (v := vjnI_4_0 z 3) tabok_jnI hojnI_4_3 (trivial) (by kernel_rfl) (by kernel_rfl) (by kernel_rfl) (anjnI_4_78 hc)
  · exact any_one _ (v := .ptr 7 0) tabok_jnI hojnI_4_11 (trivial) (by kernel_rfl) (by kernel_rfl) (by kernel_rfl) (anjnI_4_89 hc)
theorem anjnI_4_91 {z : zjnI_4} (hc : cjnI_4_0 z) : ajnI_4_0 z 7 2151 (qjnI_4_0 z 2151 [(9, .ptr 7 0), (74, .sl 8 0 (yjnI_49 z))]) (HjnI_4_0 z [4, 0]) := by
  refine any_next [3, 7] (by kernel_rfl) (by decide) fun i hi => ?_
  rcases two2 hi with rfl | rfl
  · exact any_one _ (v := vjnI_4_0 z 3) tabok_jnI hojnI_4_3 (trivial) (by kernel_rfl) (by kernel_rfl) (by kernel_rfl) (anjnI_4_79 hc)
  · exact any_one _ (v := vjnI_4_0 z 7) tabok_jnI hojnI_4_7 (trivial) (by
      refine Eq.trans (b := (match decide (0 ≤ (1 : Int) ∧ (1 : Int) ≤ (((yjnI_412 z) : Nat) : Int) ∧ ((((yjnI_412 z) : Nat) : Int) : Int) ≤ (((yjnI_412 z) : Nat) : Int)) with | true => some ((.sl 3 1 (((((yjnI_412 z) : Nat) : Int) - 1).toNat)), [.at (yjnI_41 z) (.fl .f32 (yjnI_42 z)), .at (yjnI_43 z) (.fl .f32 (yjnI_44 z)), .at (yjnI_45 z) (.fl .f32 (yjnI_46 z)), .at (yjnI_47 z) (.fl .f32 (yjnI_48 z)), .at true (.as 1 [.sl 0 0 (yjnI_49 z), .sl 1 0 (yjnI_410 z)]), .at true (.as 1 [.sl 2 0 (yjnI_411 z), .sl 3 0 (yjnI_412 z)]), .at true (.as 1 [.nil, .nil]), .at true (.as 1 [.nil, .nil]), .at true (.fl .f32 (yjnI_42 z))]) | false => none)) (by kernel_rfl) ?_
      rw [hc.2.1]
      try rfl) (by kernel_rfl) (by kernel_rfl) (anjnI_4_88 hc)
theorem anjnI_4_92 {z : zjnI_4} (hc : cjnI_4_0 z) : ajnI_4_0 z 8 2147 (qjnI_4_0 z 2147 [(9, .ptr 7 0)]) (HjnI_4_0 z [4]) := by
  refine any_next [2, 3, 7] (by kernel_rfl) (by decide) fun i hi => ?_
  rcases two3 hi with rfl | rfl | rfl
  · exact any_one _ (v := .sl 8 0 (yjnI_49 z)) tabok_jnI hojnI_4_2 (trivial) (by
      refine Eq.trans (b := (match decide ((yjnI_42 z).length = (yjnI_49 z) ∧ 1 ≤ (yjnI_49 z) ∧ (yjnI_49 z) < 2147483648) with | true => some ((.sl 8 0 (yjnI_49 z)), [.at (yjnI_41 z) (.fl .f32 (yjnI_42 z)), .at (yjnI_43 z) (.fl .f32 (yjnI_44 z)), .at (yjnI_45 z) (.fl .f32 (yjnI_46 z)), .at (yjnI_47 z) (.fl .f32 (yjnI_48 z)), .at true (.as 1 [.sl 0 0 (yjnI_49 z), .sl 1 0 (yjnI_410 z)]), .at true (.as 1 [.sl 2 0 (yjnI_411 z), .sl 3 0 (yjnI_412 z)]), .at true (.as 1 [.nil, .nil]), .at true (.as 1 [.nil, .nil]), .at true (.fl .f32 (yjnI_42 z))]) | false => none)) (by kernel_rfl) ?_
      rw [hc.1]
      try rfl) (by kernel_rfl) (by kernel_rfl) (anjnI_4_91 hc)
  · exact any_one _ (v := vjnI_4_0 z 3) tabok_jnI hojnI_4_3 (trivial) (by kernel_rfl) (by kernel_rfl) (by kernel_rfl) (anjnI_4_80 hc)
  · exact any_one _ (v := vjnI_4_0 z 7) tabok_jnI hojnI_4_7 (trivial) (by
      refine Eq.trans (b := (match decide (0 ≤ (1 : Int) ∧ (1 : Int) ≤ (((yjnI_412 z) : Nat) : Int) ∧ ((((yjnI_412 z) : Nat) : Int) : Int) ≤ (((yjnI_412 z) : Nat) : Int)) with | true => some ((.sl 3 1 (((((yjnI_412 z) : Nat) : Int) - 1).toNat)), [.at (yjnI_41 z) (.fl .f32 (yjnI_42 z)), .at (yjnI_43 z) (.fl .f32 (yjnI_44 z)), .at (yjnI_45 z) (.fl .f32 (yjnI_46 z)), .at (yjnI_47 z) (.fl .f32 (yjnI_48 z)), .at true (.as 1 [.sl 0 0 (yjnI_49 z), .sl 1 0 (yjnI_410 z)]), .at true (.as 1 [.sl 2 0 (yjnI_411 z), .sl 3 0 (yjnI_412 z)]), .at true (.as 1 [.nil, .nil]), .at true (.as 1 [.nil, .nil])]) | false => none)) (by kernel_rfl) ?_
      rw [hc.2.1]
      try rfl) (by kernel_rfl) (by kernel_rfl) (anjnI_4_89 hc)
theorem anjnI_4_93 {z : zjnI_4} (hc : cjnI_4_0 z) : ajnI_4_0 z 9 99 (qjnI_4_0 z 99 []) (HjnI_4_0 z []) := by
  refine any_next [2, 3, 7, 11] (by kernel_rfl) (by decide) fun i hi => ?_
  rcases two4 hi with rfl | rfl | rfl | rfl
  · exact any_one _ (v := vjnI_4_0 z 2) tabok_jnI hojnI_4_2 (trivial) (by
      refine Eq.trans (b := (match decide ((yjnI_42 z).length = (yjnI_49 z) ∧ 1 ≤ (yjnI_49 z) ∧ (yjnI_49 z) < 2147483648) with | true => some ((.sl 7 0 (yjnI_49 z)), [.at (yjnI_41 z) (.fl .f32 (yjnI_42 z)), .at (yjnI_43 z) (.fl .f32 (yjnI_44 z)), .at (yjnI_45 z) (.fl .f32 (yjnI_46 z)), .at (yjnI_47 z) (.fl .f32 (yjnI_48 z)), .at true (.as 1 [.sl 0 0 (yjnI_49 z), .sl 1 0 (yjnI_410 z)]), .at true (.as 1 [.sl 2 0 (yjnI_411 z), .sl 3 0 (yjnI_412 z)]), .at true (.as 1 [.nil, .nil]), .at true (.fl .f32 (yjnI_42 z))]) | false => none)) (by kernel_rfl) ?_
      rw [hc.1]
      try rfl) (by kernel_rfl) (by kernel_rfl) (anjnI_4_34 hc)
  · exact any_one _ (v := vjnI_4_0 z 3) tabok_jnI hojnI_4_3 (trivial) (by kernel_rfl) (by kernel_rfl) (by kernel_rfl) (anjnI_4_81 hc)
  · exact any_one _ (v := vjnI_4_0 z 7) tabok_jnI hojnI_4_7 (trivial) (by
      refine Eq.trans (b := (match decide (0 ≤ (1 : Int) ∧ (1 : Int) ≤ (((yjnI_412 z) : Nat) : Int) ∧ ((((yjnI_412 z) : Nat) : Int) : Int) ≤ (((yjnI_412 z) : Nat) : Int)) with | true => some ((.sl 3 1 (((((yjnI_412 z) : Nat) : Int) - 1).toNat)), [.at (yjnI_41 z) (.fl .f32 (yjnI_42 z)), .at (yjnI_43 z) (.fl .f32 (yjnI_44 z)), .at (yjnI_45 z) (.fl .f32 (yjnI_46 z)), .at (yjnI_47 z) (.fl .f32 (yjnI_48 z)), .at true (.as 1 [.sl 0 0 (yjnI_49 z), .sl 1 0 (yjnI_410 z)]), .at true (.as 1 [.sl 2 0 (yjnI_411 z), .sl 3 0 (yjnI_412 z)]), .at true (.as 1 [.nil, .nil])]) | false => none)) (by kernel_rfl) ?_
      rw [hc.2.1]
      try rfl) (by kernel_rfl) (by kernel_rfl) (anjnI_4_90 hc)
  · exact any_one _ (v := .ptr 7 0) tabok_jnI hojnI_4_11 (trivial) (by kernel_rfl) (by kernel_rfl) (by kernel_rfl) (anjnI_4_92 hc)
theorem anjnI_4_94 {z : zjnI_4} (hc : cjnI_4_0 z) : ajnI_4_0 z 8 2087 (qjnI_4_0 z 2087 [(9, .ptr 7 0), (74, .sl 8 0 (yjnI_49 z))]) (HjnI_4_0 z [4, 0]) := by
  refine any_next [3, 6] (by kernel_rfl) (by decide) fun i hi => ?_
  rcases two2 hi with rfl | rfl
  · exact any_one _ (v := vjnI_4_0 z 3) tabok_jnI hojnI_4_3 (trivial) (by kernel_rfl) (by kernel_rfl) (by kernel_rfl) (anjnI_4_82 hc)
  · exact any_one _ (v := vjnI_4_0 z 6) tabok_jnI hojnI_4_6 (trivial) (by kernel_rfl) (by kernel_rfl) (by kernel_rfl) (anjnI_4_91 hc)
theorem anjnI_4_95 {z : zjnI_4} (hc : cjnI_4_0 z) : ajnI_4_0 z 9 2083 (qjnI_4_0 z 2083 [(9, .ptr 7 0)]) (HjnI_4_0 z [4]) := by
  refine any_next [2, 3, 6] (by kernel_rfl) (by decide) fun i hi => ?_
  rcases two3 hi with rfl | rfl | rfl
  · exact any_one _ (v := .sl 8 0 (yjnI_49 z)) tabok_jnI hojnI_4_2 (trivial) (by
      refine Eq.trans (b := (match decide ((yjnI_42 z).length = (yjnI_49 z) ∧ 1 ≤ (yjnI_49 z) ∧ (yjnI_49 z) < 2147483648) with | true => some ((.sl 8 0 (yjnI_49 z)), [.at (yjnI_41 z) (.fl .f32 (yjnI_42 z)), .at (yjnI_43 z) (.fl .f32 (yjnI_44 z)), .at (yjnI_45 z) (.fl .f32 (yjnI_46 z)), .at (yjnI_47 z) (.fl .f32 (yjnI_48 z)), .at true (.as 1 [.sl 0 0 (yjnI_49 z), .sl 1 0 (yjnI_410 z)]), .at true (.as 1 [.sl 2 0 (yjnI_411 z), .sl 3 0 (yjnI_412 z)]), .at true (.as 1 [.nil, .nil]), .at true (.as 1 [.nil, .nil]), .at true (.fl .f32 (yjnI_42 z))]) | false => none)) (by kernel_rfl) ?_
      rw [hc.1]
      try rfl) (by kernel_rfl) (by kernel_rfl) (anjnI_4_94 hc)
  · exact any_one _ (v := vjnI_4_0 z 3) tabok_jnI hojnI_4_3 (trivial) (by kernel_rfl) (by kernel_rfl) (by kernel_rfl) (anjnI_4_83 hc)
  · exact any_one _ (v := vjnI_4_0 z 6) tabok_jnI hojnI_4_6 (trivial) (by kernel_rfl) (by kernel_rfl) (by kernel_rfl) (anjnI_4_92 hc)
theorem anjnI_4_96 {z : zjnI_4} (hc : cjnI_4_0 z) : ajnI_4_0 z 10 35 (qjnI_4_0 z 35 []) (HjnI_4_0 z []) := by
  refine any_next [2, 3, 6, 11] (by kernel_rfl) (by decide) fun i hi => ?_
  rcases two4 hi with rfl | rfl | rfl | rfl
  · exact any_one _ (v := vjnI_4_0 z 2) tabok_jnI hojnI_4_2 (trivial) (by
      refine Eq.trans (b := (match decide ((yjnI_42 z).length = (yjnI_49 z) ∧ 1 ≤ (yjnI_49 z) ∧ (yjnI_49 z) < 2147483648) with | true => some ((.sl 7 0 (yjnI_49 z)), [.at (yjnI_41 z) (.fl .f32 (yjnI_42 z)), .at (yjnI_43 z) (.fl .f32 (yjnI_44 z)), .at (yjnI_45 z) (.fl .f32 (yjnI_46 z)), .at (yjnI_47 z) (.fl .f32 (yjnI_48 z)), .at true (.as 1 [.sl 0 0 (yjnI_49 z), .sl 1 0 (yjnI_410 z)]), .at true (.as 1 [.sl 2 0 (yjnI_411 z), .sl 3 0 (yjnI_412 z)]), .at true (.as 1 [.nil, .nil]), .at true (.fl .f32 (yjnI_42 z))]) | false => none)) (by kernel_rfl) ?_
      rw [hc.1]
      try rfl) (by kernel_rfl) (by kernel_rfl) (anjnI_4_36 hc)
  · exact any_one _ (v := vjnI_4_0 z 3) tabok_jnI hojnI_4_3 (trivial) (by kernel_rfl) (by kernel_rfl) (by kernel_rfl) (anjnI_4_84 hc)
  · exact any_one _ (v := vjnI_4_0 z 6) tabok_jnI hojnI_4_6 (trivial) (by kernel_rfl) (by kernel_rfl) (by kernel_rfl) (anjnI_4_93 hc)
  · exact any_one _ (v := .ptr 7 0) tabok_jnI hojnI_4_11 (trivial) (by kernel_rfl) (by kernel_rfl) (by kernel_rfl) (anjnI_4_95 hc)
theorem anjnI_4_97 {z : zjnI_4} (hc : cjnI_4_0 z) : ajnI_4_0 z 9 2055 (qjnI_4_0 z 2055 [(9, .ptr 7 0), (74, .sl 8 0 (yjnI_49 z))]) (HjnI_4_0 z [4, 0]) := by
  refine any_next [3, 5] (by kernel_rfl) (by decide) fun i hi => ?_
  rcases two2 hi with rfl | rfl
  · exact any_one _ (v := vjnI_4_0 z 3) tabok_jnI hojnI_4_3 (trivial) (by kernel_rfl) (by kernel_rfl) (by kernel_rfl) (anjnI_4_85 hc)
  · exact any_one _ (v := vjnI_4_0 z 5) tabok_jnI hojnI_4_5 (trivial) (by kernel_rfl) (by kernel_rfl) (by kernel_rfl) (anjnI_4_94 hc)
theorem anjnI_4_98 {z : zjnI_4} (hc : cjnI_4_0 z) : ajnI_4_0 z 10 2051 (qjnI_4_0 z 2051 [(9, .ptr 7 0)]) (HjnI_4_0 z [4]) := by
  refine any_next [2, 3, 5] (by kernel_rfl) (by decide) fun i hi => ?_
  rcases two3 hi with rfl | rfl | rfl
  · exact any_one _ (v := .sl 8 0 (yjnI_49 z)) tabok_jnI hojnI_4_2 (trivial) (by
      refine Eq.trans (b := (match decide ((yjnI_42 z).length = (yjnI_49 z) ∧ 1 ≤ (yjnI_49 z) ∧ (yjnI_49 z) < 2147483648) with | true => some ((.sl 8 0 (yjnI_49 z)), [.at (yjnI_41 z) (.fl .f32 (yjnI_42 z)), .at (yjnI_43 z) (.fl .f32 (yjnI_44 z)), .at (yjnI_45 z) (.fl .f32 (yjnI_46 z)), .at (yjnI_47 z) (.fl .f32 (yjnI_48 z)), .at true (.as 1 [.sl 0 0 (yjnI_49 z), .sl 1 0 (yjnI_410 z)]), .at true (.as 1 [.sl 2 0 (yjnI_411 z), .sl 3 0 (yjnI_412 z)]), .at true (.as 1 [.nil, .nil]), .at true (.as 1 [.nil, .nil]), .at true (.fl .f32 (yjnI_42 z))]) | false => none)) (by kernel_rfl) ?_
      rw [hc.1]
      try rfl) (by kernel_rfl) (by kernel_rfl) (anjnI_4_97 hc)
  · exact any_one _ (v := vjnI_4_0 z 3) tabok_jnI hojnI_4_3 (trivial) (by kernel_rfl) (by kernel_rfl) (by kernel_rfl) (anjnI_4_86 hc)
  · exact any_one _ (v := vjnI_4_0 z 5) tabok_jnI hojnI_4_5 (trivial) (by kernel_rfl) (by kernel_rfl) (by kernel_rfl) (anjnI_4_95 hc)
theorem anjnI_4_99 {z : zjnI_4} (hc : cjnI_4_0 z) : ajnI_4_0 z 11 3 (qjnI_4_0 z 3 []) (HjnI_4_0 z []) := by
  refine any_next [2, 3, 5, 11] (by kernel_rfl) (by decide) fun i hi => ?_
  rcases two4 hi with rfl | rfl | rfl | rfl
  · exact any_one _ (v := vjnI_4_0 z 2) tabok_jnI hojnI_4_2 (trivial) (by
      refine Eq.trans (b := (match decide ((yjnI_42 z).length = (yjnI_49 z) ∧ 1 ≤ (yjnI_49 z) ∧ (yjnI_49 z) < 2147483648) with | true => some ((.sl 7 0 (yjnI_49 z)), [.at (yjnI_41 z) (.fl .f32 (yjnI_42 z)), .at (yjnI_43 z) (.fl .f32 (yjnI_44 z)), .at (yjnI_45 z) (.fl .f32 (yjnI_46 z)), .at (yjnI_47 z) (.fl .f32 (yjnI_48 z)), .at true (.as 1 [.sl 0 0 (yjnI_49 z), .sl 1 0 (yjnI_410 z)]), .at true (.as 1 [.sl 2 0 (yjnI_411 z), .sl 3 0 (yjnI_412 z)]), .at true (.as 1 [.nil, .nil]), .at true (.fl .f32 (yjnI_42 z))]) | false => none)) (by kernel_rfl) ?_
      rw [hc.1]
      try rfl) (by kernel_rfl) (by kernel_rfl) (anjnI_4_38 hc)
  · exact any_one _ (v := vjnI_4_0 z 3) tabok_jnI hojnI_4_3 (trivial) (by kernel_rfl) (by kernel_rfl) (by kernel_rfl) (anjnI_4_87 hc)
  · exact any_one _ (v := vjnI_4_0 z 5) tabok_jnI hojnI_4_5 (trivial) (by kernel_rfl) (by kernel_rfl) (by kernel_rfl) (anjnI_4_96 hc)
  · exact any_one _ (v := .ptr 7 0) tabok_jnI hojnI_4_11 (trivial) (by kernel_rfl) (by kernel_rfl) (by kernel_rfl) (anjnI_4_98 hc)
theorem anjnI_4_100 {z : zjnI_4} (hc : cjnI_4_0 z) : ajnI_4_0 z 5 2553 (qjnI_4_0 z 2553 [(9, .ptr 8 0), (80, .sl 7 0 2)]) (HjnI_4_0 z [1, 4]) := by
  refine any_next [1] (by kernel_rfl) (by decide) fun i hi => ?_
  obtain rfl := two1 hi
  · exact any_one _ (v := vjnI_4_0 z 1) tabok_jnI hojnI_4_1 (trivial) (by kernel_rfl) (by kernel_rfl) (by kernel_rfl) (anjnI_4_53 hc)
theorem anjnI_4_101 {z : zjnI_4} (hc : cjnI_4_0 z) : ajnI_4_0 z 6 505 (qjnI_4_0 z 505 [(80, .sl 7 0 2)]) (HjnI_4_0 z [1]) := by
  refine any_next [1, 11] (by kernel_rfl) (by decide) fun i hi => ?_
  rcases two2 hi with rfl | rfl
  · exact any_one _ (v := vjnI_4_0 z 1) tabok_jnI hojnI_4_1 (trivial) (by kernel_rfl) (by kernel_rfl) (by kernel_rfl) (anjnI_4_54 hc)
  · exact any_one _ (v := .ptr 8 0) tabok_jnI hojnI_4_11 (trivial) (by kernel_rfl) (by kernel_rfl) (by kernel_rfl) (anjnI_4_100 hc)
theorem anjnI_4_102 {z : zjnI_4} (hc : cjnI_4_0 z) : ajnI_4_0 z 5 2553 (qjnI_4_0 z 2553 [(9, .ptr 7 0)]) (HjnI_4_0 z [4, 1]) := by
  refine any_next [1] (by kernel_rfl) (by decide) fun i hi => ?_
  obtain rfl := two1 hi
  · exact any_one _ (v := vjnI_4_0 z 1) tabok_jnI hojnI_4_1 (trivial) (by kernel_rfl) (by kernel_rfl) (by kernel_rfl) (anjnI_4_64 hc)
theorem anjnI_4_103 {z : zjnI_4} (hc : cjnI_4_0 z) : ajnI_4_0 z 6 2297 (qjnI_4_0 z 2297 [(9, .ptr 7 0)]) (HjnI_4_0 z [4]) := by
  refine any_next [1, 8] (by kernel_rfl) (by decide) fun i hi => ?_
  rcases two2 hi with rfl | rfl
  · exact any_one _ (v := vjnI_4_0 z 1) tabok_jnI hojnI_4_1 (trivial) (by kernel_rfl) (by kernel_rfl) (by kernel_rfl) (anjnI_4_65 hc)
  · exact any_one _ (v := vjnI_4_0 z 8) tabok_jnI hojnI_4_8 (trivial) (by kernel_rfl) (by kernel_rfl) (by kernel_rfl) (anjnI_4_102 hc)
theorem anjnI_4_104 {z : zjnI_4} (hc : cjnI_4_0 z) : ajnI_4_0 z 7 249 (qjnI_4_0 z 249 []) (HjnI_4_0 z []) := by
  refine any_next [1, 8, 11] (by kernel_rfl) (by decide) fun i hi => ?_
  rcases two3 hi with rfl | rfl | rfl
  · exact any_one _ (v := vjnI_4_0 z 1) tabok_jnI hojnI_4_1 (trivial) (by kernel_rfl) (by kernel_rfl) (by kernel_rfl) (anjnI_4_66 hc)
  · exact any_one _ (v := .sl 7 0 2) tabok_jnI hojnI_4_8 (trivial) (by kernel_rfl) (by kernel_rfl) (by kernel_rfl) (anjnI_4_101 hc)
  · exact any_one _ (v := .ptr 7 0) tabok_jnI hojnI_4_11 (trivial) (by kernel_rfl) (by kernel_rfl) (by kernel_rfl) (anjnI_4_103 hc)
theorem anjnI_4_105 {z : zjnI_4} (hc : cjnI_4_0 z) : ajnI_4_0 z 7 2169 (qjnI_4_0 z 2169 [(9, .ptr 7 0)]) (HjnI_4_0 z [4]) := by
  refine any_next [1, 7] (by kernel_rfl) (by decide) fun i hi => ?_
  rcases two2 hi with rfl | rfl
  · exact any_one _ (v := vjnI_4_0 z 1) tabok_jnI hojnI_4_1 (trivial) (by kernel_rfl) (by kernel_rfl) (by kernel_rfl) (anjnI_4_68 hc)
  · exact any_one _ (v := vjnI_4_0 z 7) tabok_jnI hojnI_4_7 (trivial) (by
      refine Eq.trans (b := (match decide (0 ≤ (1 : Int) ∧ (1 : Int) ≤ (((yjnI_412 z) : Nat) : Int) ∧ ((((yjnI_412 z) : Nat) : Int) : Int) ≤ (((yjnI_412 z) : Nat) : Int)) with | true => some ((.sl 3 1 (((((yjnI_412 z) : Nat) : Int) - 1).toNat)), [.at (yjnI_41 z) (.fl .f32 (yjnI_42 z)), .at (yjnI_43 z) (.fl .f32 (yjnI_44 z)), .at (yjnI_45 z) (.fl .f32 (yjnI_46 z)), .at (yjnI_47 z) (.fl .f32 (yjnI_48 z)), .at true (.as 1 [.sl 0 0 (yjnI_49 z), .sl 1 0 (yjnI_410 z)]), .at true (.as 1 [.sl 2 0 (yjnI_411 z), .sl 3 0 (yjnI_412 z)]), .at true (.as 1 [.nil, .nil]), .at true (.as 1 [.nil, .nil])]) | false => none)) (by kernel_rfl) ?_
      rw [hc.2.1]
      try rfl) (by kernel_rfl) (by kernel_rfl) (anjnI_4_103 hc)
theorem anjnI_4_106 {z : zjnI_4} (hc : cjnI_4_0 z) : ajnI_4_0 z 8 121 (qjnI_4_0 z 121 []) (HjnI_4_0 z []) := by
  refine any_next [1, 7, 11] (by kernel_rfl) (by decide) fun i hi => ?_
  rcases two3 hi with rfl | rfl | rfl
  · exact any_one _ (v := vjnI_4_0 z 1) tabok_jnI hojnI_4_1 (trivial) (by kernel_rfl) (by kernel_rfl) (by kernel_rfl) (anjnI_4_69 hc)
  · exact any_one _ (v := vjnI_4_0 z 7) tabok_jnI hojnI_4_7 (trivial) (by
      refine Eq.trans (b := (match decide (0 ≤ (1 : Int) ∧ (1 : Int) ≤ (((yjnI_412 z) : Nat) : Int) ∧ ((((yjnI_412 z) : Nat) : Int) : Int) ≤ (((yjnI_412 z) : Nat) : Int)) with | true => some ((.sl 3 1 (((((yjnI_412 z) : Nat) : Int) - 1).toNat)), [.at (yjnI_41 z) (.fl .f32 (yjnI_42 z)), .at (yjnI_43 z) (.fl .f32 (yjnI_44 z)), .at (yjnI_45 z) (.fl .f32 (yjnI_46 z)), .at (yjnI_47 z) (.fl .f32 (yjnI_48 z)), .at true (.as 1 [.sl 0 0 (yjnI_49 z), .sl 1 0 (yjnI_410 z)]), .at true (.as 1 [.sl 2 0 (yjnI_411 z), .sl 3 0 (yjnI_412 z)]), .at true (.as 1 [.nil, .nil])]) | false => none)) (by kernel_rfl) ?_
      rw [hc.2.1]
      try rfl) (by kernel_rfl) (by kernel_rfl) (anjnI_4_104 hc)
  · exact any_one _ (v := .ptr 7 0) tabok_jnI hojnI_4_11 (trivial) (by kernel_rfl) (by kernel_rfl) (by kernel_rfl) (anjnI_4_105 hc)
theorem anjnI_4_107 {z : zjnI_4} (hc : cjnI_4_0 z) : ajnI_4_0 z 8 2105 (qjnI_4_0 z 2105 [(9, .ptr 7 0)]) (HjnI_4_0 z [4]) := by
  refine any_next [1, 6] (by kernel_rfl) (by decide) fun i hi => ?_
  rcases two2 hi with rfl | rfl
  · exact any_one _ (v := vjnI_4_0 z 1) tabok_jnI hojnI_4_1 (trivial) (by kernel_rfl) (by kernel_rfl) (by kernel_rfl) (anjnI_4_71 hc)
  · exact any_one _ (v := vjnI_4_0 z 6) tabok_jnI hojnI_4_6 (trivial) (by kernel_rfl) (by kernel_rfl) (by kernel_rfl) (anjnI_4_105 hc)
theorem anjnI_4_108 {z : zjnI_4} (hc : cjnI_4_0 z) : ajnI_4_0 z 9 57 (qjnI_4_0 z 57 []) (HjnI_4_0 z []) := by
  refine any_next [1, 6, 11] (by kernel_rfl) (by decide) fun i hi => ?_
  rcases two3 hi with rfl | rfl | rfl
  · exact any_one _ (v := vjnI_4_0 z 1) tabok_jnI hojnI_4_1 (trivial) (by kernel_rfl) (by kernel_rfl) (by kernel_rfl) (anjnI_4_72 hc)
  · exact any_one _ (v := vjnI_4_0 z 6) tabok_jnI hojnI_4_6 (trivial) (by kernel_rfl) (by kernel_rfl) (by kernel_rfl) (anjnI_4_106 hc)
  · exact any_one _ (v := .ptr 7 0) tabok_jnI hojnI_4_11 (trivial) (by kernel_rfl) (by kernel_rfl) (by kernel_rfl) (anjnI_4_107 hc)
theorem anjnI_4_109 {z : zjnI_4} (hc : cjnI_4_0 z) : ajnI_4_0 z 9 2073 (qjnI_4_0 z 2073 [(9, .ptr 7 0)]) (HjnI_4_0 z [4]) := by
  refine any_next [1, 5] (by kernel_rfl) (by decide) fun i hi => ?_
  rcases two2 hi with rfl | rfl
  · exact any_one _ (v := vjnI_4_0 z 1) tabok_jnI hojnI_4_1 (trivial) (by kernel_rfl) (by kernel_rfl) (by kernel_rfl) (anjnI_4_74 hc)
  · exact any_one _ (v := vjnI_4_0 z 5) tabok_jnI hojnI_4_5 (trivial) (by kernel_rfl) (by kernel_rfl) (by kernel_rfl) (anjnI_4_107 hc)
theorem anjnI_4_110 {z : zjnI_4} (hc : cjnI_4_0 z) : ajnI_4_0 z 10 25 (qjnI_4_0 z 25 []) (HjnI_4_0 z []) := by
  refine any_next [1, 5, 11] (by kernel_rfl) (by decide) fun i hi => ?_
  rcases two3 hi with rfl | rfl | rfl
  · exact any_one _ (v := vjnI_4_0 z 1) tabok_jnI hojnI_4_1 (trivial) (by kernel_rfl) (by kernel_rfl) (by kernel_rfl) (anjnI_4_75 hc)
  · exact any_one _ (v := vjnI_4_0 z 5) tabok_jnI hojnI_4_5 (trivial) (by kernel_rfl) (by kernel_rfl) (by kernel_rfl) (anjnI_4_108 hc)
  · exact any_one _ (v := .ptr 7 0) tabok_jnI hojnI_4_11 (trivial) (by kernel_rfl) (by kernel_rfl) (by kernel_rfl) (anjnI_4_109 hc)
theorem anjnI_4_111 {z : zjnI_4} (hc : cjnI_4_0 z) : ajnI_4_0 z 7 2281 (qjnI_4_0 z 2281 [(9, .ptr 7 0)]) (HjnI_4_0 z [4]) := by
  refine any_next [1, 4] (by kernel_rfl) (by decide) fun i hi => ?_
  rcases two2 hi with rfl | rfl
  · exact any_one _ (v := vjnI_4_0 z 1) tabok_jnI hojnI_4_1 (trivial) (by kernel_rfl) (by kernel_rfl) (by kernel_rfl) (anjnI_4_77 hc)
  · exact any_one _ (v := vjnI_4_0 z 4) tabok_jnI hojnI_4_4 (trivial) (by kernel_rfl) (by kernel_rfl) (by kernel_rfl) (anjnI_4_103 hc)
theorem anjnI_4_112 {z : zjnI_4} (hc : cjnI_4_0 z) : ajnI_4_0 z 8 233 (qjnI_4_0 z 233 []) (HjnI_4_0 z []) := by
  refine any_next [1, 4, 11] (by kernel_rfl) (by decide) fun i hi => ?_
  rcases two3 hi with rfl | rfl | rfl
  · exact any_one _ (v := vjnI_4_0 z 1) tabok_jnI hojnI_4_1 (trivial) (by kernel_rfl) (by kernel_rfl) (by kernel_rfl) (anjnI_4_78 hc)
  · exact any_one _ (v := vjnI_4_0 z 4) tabok_jnI hojnI_4_4 (trivial) (by kernel_rfl) (by kernel_rfl) (by kernel_rfl) (anjnI_4_104 hc)
  · exact any_one _ (v := .ptr 7 0) tabok_jnI hojnI_4_11 (trivial) (by kernel_rfl) (by kernel_rfl) (by kernel_rfl) (anjnI_4_111 hc)
theorem anjnI_4_113 {z : zjnI_4} (hc : cjnI_4_0 z) : ajnI_4_0 z 8 2153 (qjnI_4_0 z 2153 [(9, .ptr 7 0)]) (HjnI_4_0 z [4]) := by
  refine any_next [1, 4, 7] (by kernel_rfl) (by decide) fun i hi => ?_
  rcases two3 hi with rfl | rfl | rfl
  · exact any_one _ (v := vjnI_4_0 z 1) tabok_jnI hojnI_4_1 (trivial) (by kernel_rfl) (by kernel_rfl) (by kernel_rfl) (anjnI_4_80 hc)
  · exact any_one _ (v := vjnI_4_0 z 4) tabok_jnI hojnI_4_4 (trivial) (by kernel_rfl) (by kernel_rfl) (by kernel_rfl) (anjnI_4_105 hc)
  · exact any_one _ (v := vjnI_4_0 z 7) tabok_jnI hojnI_4_7 (trivial) (by
      refine Eq.trans (b := (match decide (0 ≤ (1 : Int) ∧ (1 : Int) ≤ (((yjnI_412 z) : Nat) : Int) ∧ ((((yjnI_412 z) : Nat) : Int) : Int) ≤ (((yjnI_412 z) : Nat) : Int)) with | true => some ((.sl 3 1 (((((yjnI_412 z) : Nat) : Int) - 1).toNat)), [.at (yjnI_41 z) (.fl .f32 (yjnI_42 z)), .at (yjnI_43 z) (.fl .f32 (yjnI_44 z)), .at (yjnI_45 z) (.fl .f32 (yjnI_46 z)), .at (yjnI_47 z) (.fl .f32 (yjnI_48 z)), .at true (.as 1 [.sl 0 0 (yjnI_49 z), .sl 1 0 (yjnI_410 z)]), .at true (.as 1 [.sl 2 0 (yjnI_411 z), .sl 3 0 (yjnI_412 z)]), .at true (.as 1 [.nil, .nil]), .at true (.as 1 [.nil, .nil])]) | false => none)) (by kernel_rfl) ?_
      rw [hc.2.1]
      try rfl) (by kernel_rfl) (by kernel_rfl) (anjnI_4_111 hc)
theorem anjnI_4_114 {z : zjnI_4} (hc : cjnI_4_0 z) : ajnI_4_0 z 9 105 (qjnI_4_0 z 105 []) (HjnI_4_0 z []) := by
  refine any_next [1, 4, 7, 11] (by kernel_rfl) (by decide) fun i hi => ?_
  rcases two4 hi with rfl | rfl | rfl | rfl
  · exact any_one _ (v := vjnI_4_0 z 1) tabok_jnI hojnI_4_1 (trivial) (by kernel_rfl) (by kernel_rfl) (by kernel_rfl) (anjnI_4_81 hc)
  · exact any_one _ (v := vjnI_4_0 z 4) tabok_jnI hojnI_4_4 (trivial) (by kernel_rfl) (by kernel_rfl) (by kernel_rfl) (anjnI_4_106 hc)
  · exact any_one _ (v := vjnI_4_0 z 7) tabok_jnI hojnI_4_7 (trivial) (by
      refine Eq.trans (b := (match decide (0 ≤ (1 : Int) ∧ (1 : Int) ≤ (((yjnI_412 z) : Nat) : Int) ∧ ((((yjnI_412 z) : Nat) : Int) : Int) ≤ (((yjnI_412 z) : Nat) : Int)) with | true => some ((.sl 3 1 (((((yjnI_412 z) : Nat) : Int) - 1).toNat)), [.at (yjnI_41 z) (.fl .f32 (yjnI_42 z)), .at (yjnI_43 z) (.fl .f32 (yjnI_44 z)), .at (yjnI_45 z) (.fl .f32 (yjnI_46 z)), .at (yjnI_47 z) (.fl .f32 (yjnI_48 z)), .at true (.as 1 [.sl 0 0 (yjnI_49 z), .sl 1 0 (yjnI_410 z)]), .at true (.as 1 [.sl 2 0 (yjnI_411 z), .sl 3 0 (yjnI_412 z)]), .at true (.as 1 [.nil, .nil])]) | false => none)) (by kernel_rfl) ?_
      rw [hc.2.1]
      try rfl) (by kernel_rfl) (by kernel_rfl) (anjnI_4_112 hc)
  · exact any_one _ (v := .ptr 7 0) tabok_jnI hojnI_4_11 (trivial) (by kernel_rfl) (by kernel_rfl) (by kernel_rfl) (anjnI_4_113 hc)
theorem anjnI_4_115 {z : zjnI_4} (hc : cjnI_4_0 z) : ajnI_4_0 z 9 2089 (qjnI_4_0 z 2089 [(9, .ptr 7 0)]) (HjnI_4_0 z [4]) := by
  refine any_next [1, 4, 6] (by kernel_rfl) (by decide) fun i hi => ?_
  rcases two3 hi with rfl | rfl | rfl
  · exact any_one _ (v := vjnI_4_0 z 1) tabok_jnI hojnI_4_1 (trivial) (by kernel_rfl) (by kernel_rfl) (by kernel_rfl) (anjnI_4_83 hc)
  · exact any_one _ (v := vjnI_4_0 z 4) tabok_jnI hojnI_4_4 (trivial) (by kernel_rfl) (by kernel_rfl) (by kernel_rfl) (anjnI_4_107 hc)
  · exact any_one _ (v := vjnI_4_0 z 6) tabok_jnI hojnI_4_6 (trivial) (by kernel_rfl) (by kernel_rfl) (by kernel_rfl) (anjnI_4_113 hc)
theorem anjnI_4_116 {z : zjnI_4} (hc : cjnI_4_0 z) : ajnI_4_0 z 10 41 (qjnI_4_0 z 41 []) (HjnI_4_0 z []) := by
  refine any_next [1, 4, 6, 11] (by kernel_rfl) (by decide) fun i hi => ?_
  rcases two4 hi with rfl | rfl | rfl | rfl
  · exact any_one _ (v := vjnI_4_0 z 1) tabok_jnI hojnI_4_1 (trivial) (by kernel_rfl) (by kernel_rfl) (by kernel_rfl) (anjnI_4_84 hc)
  · exact any_one _ (v := vjnI_4_0 z 4) tabok_jnI hojnI_4_4 (trivial) (by kernel_rfl) (by kernel_rfl) (by kernel_rfl) (anjnI_4_108 hc)
  · exact any_one _ (v := vjnI_4_0 z 6) tabok_jnI hojnI_4_6 (trivial) (by kernel_rfl) (by kernel_rfl) (by kernel_rfl) (anjnI_4_114 hc)
  · exact any_one _ (v := .ptr 7 0) tabok_jnI hojnI_4_11 (trivial) (by kernel_rfl) (by kernel_rfl) (by kernel_rfl) (anjnI_4_115 hc)
theorem anjnI_4_117 {z : zjnI_4} (hc : cjnI_4_0 z) : ajnI_4_0 z 10 2057 (qjnI_4_0 z 2057 [(9, .ptr 7 0)]) (HjnI_4_0 z [4]) := by
  refine any_next [1, 4, 5] (by kernel_rfl) (by decide) fun i hi => ?_
  rcases two3 hi with rfl | rfl | rfl
  · exact any_one _ (v := vjnI_4_0 z 1) tabok_jnI hojnI_4_1 (trivial) (by kernel_rfl) (by kernel_rfl) (by kernel_rfl) (anjnI_4_86 hc)
  · exact any_one _ (v := vjnI_4_0 z 4) tabok_jnI hojnI_4_4 (trivial) (by kernel_rfl) (by kernel_rfl) (by kernel_rfl) (anjnI_4_109 hc)
  · exact any_one _ (v := vjnI_4_0 z 5) tabok_jnI hojnI_4_5 (trivial) (by kernel_rfl) (by kernel_rfl) (by kernel_rfl) (anjnI_4_115 hc)
theorem anjnI_4_118 {z : zjnI_4} (hc : cjnI_4_0 z) : ajnI_4_0 z 11 9 (qjnI_4_0 z 9 []) (HjnI_4_0 z []) := by
  refine any_next [1, 4, 5, 11] (by kernel_rfl) (by decide) fun i hi => ?_
  rcases two4 hi with rfl | rfl | rfl | rfl
  · exact any_one _ (v := vjnI_4_0 z 1) tabok_jnI hojnI_4_1 (trivial) (by kernel_rfl) (by kernel_rfl) (by kernel_rfl) (anjnI_4_87 hc)
  · exact any_one _ (v := vjnI_4_0 z 4) tabok_jnI hojnI_4_4 (trivial) (by kernel_rfl) (by kernel_rfl) (by kernel_rfl) (anjnI_4_110 hc)
  · exact any_one _ (v := vjnI_4_0 z 5) tabok_jnI hojnI_4_5 (trivial) (by kernel_rfl) (by kernel_rfl) (by kernel_rfl) (anjnI_4_116 hc)
  · exact any_one _ (v := .ptr 7 0) tabok_jnI hojnI_4_11 (trivial) (by kernel_rfl) (by kernel_rfl) (by kernel_rfl) (anjnI_4_117 hc)
theorem anjnI_4_119 {z : zjnI_4} (hc : cjnI_4_0 z) : ajnI_4_0 z 8 2273 (qjnI_4_0 z 2273 [(9, .ptr 7 0)]) (HjnI_4_0 z [4]) := by
  refine any_next [1, 3] (by kernel_rfl) (by decide) fun i hi => ?_
  rcases two2 hi with rfl | rfl
  · exact any_one _ (v := vjnI_4_0 z 1) tabok_jnI hojnI_4_1 (trivial) (by kernel_rfl) (by kernel_rfl) (by kernel_rfl) (anjnI_4_89 hc)
  · exact any_one _ (v := vjnI_4_0 z 3) tabok_jnI hojnI_4_3 (trivial) (by kernel_rfl) (by kernel_rfl) (by kernel_rfl) (anjnI_4_111 hc)
theorem anjnI_4_120 {z : zjnI_4} (hc : cjnI_4_0 z) : ajnI_4_0 z 9 225 (qjnI_4_0 z 225 []) (HjnI_4_0 z []) := by
  refine any_next [1, 3, 11] (by kernel_rfl) (by decide) fun i hi => ?_
  rcases two3 hi with rfl | rfl | rfl
  · exact any_one _ (v := vjnI_4_0 z 1) tabok_jnI hojnI_4_1 (trivial) (by kernel_rfl) (by kernel_rfl) (by kernel_rfl) (anjnI_4_90 hc)
  · exact any_one _ (v := vjnI_4_0 z 3) tabok_jnI hojnI_4_3 (trivial) (by kernel_rfl) (by kernel_rfl) (by kernel_rfl) (anjnI_4_112 hc)
  · exact any_one _ (v := .ptr 7 0) tabok_jnI hojnI_4_11 (trivial) (by kernel_rfl) (by kernel_rfl) (by kernel_rfl) (anjnI_4_119 hc)
theorem anjnI_4_121 {z : zjnI_4} (hc : cjnI_4_0 z) : ajnI_4_0 z 9 2145 (qjnI_4_0 z 2145 [(9, .ptr 7 0)]) (HjnI_4_0 z [4]) := by
  refine any_next [1, 3, 7] (by kernel_rfl) (by decide) fun i hi => ?_
  rcases two3 hi with rfl | rfl | rfl
  · exact any_one _ (v := vjnI_4_0 z 1) tabok_jnI hojnI_4_1 (trivial) (by kernel_rfl) (by kernel_rfl) (by kernel_rfl) (anjnI_4_92 hc)
  · exact any_one _ (v := vjnI_4_0 z 3) tabok_jnI hojnI_4_3 (trivial) (by kernel_rfl) (by kernel_rfl) (by kernel_rfl) (anjnI_4_113 hc)
  · exact any_one _ (v := vjnI_4_0 z 7) tabok_jnI hojnI_4_7 (trivial) (by
      refine Eq.trans (b := (match decide (0 ≤ (1 : Int) ∧ (1 : Int) ≤ (((yjnI_412 z) : Nat) : Int) ∧ ((((yjnI_412 z) : Nat) : Int) : Int) ≤ (((yjnI_412 z) : Nat) : Int)) with | true => some ((.sl 3 1 (((((yjnI_412 z) : Nat) : Int) - 1).toNat)), [.at (yjnI_41 z) (.fl .f32 (yjnI_42 z)), .at (yjnI_43 z) (.fl .f32 (yjnI_44 z)), .at (yjnI_45 z) (.fl .f32 (yjnI_46 z)), .at (yjnI_47 z) (.fl .f32 (yjnI_48 z)), .at true (.as 1 [.sl 0 0 (yjnI_49 z), .sl 1 0 (yjnI_410 z)]), .at true (.as 1 [.sl 2 0 (yjnI_411 z), .sl 3 0 (yjnI_412 z)]), .at true (.as 1 [.nil, .nil]), .at true (.as 1 [.nil, .nil])]) | false => none)) (by kernel_rfl) ?_
      rw [hc.2.1]
      try rfl) (by kernel_rfl) (by kernel_rfl) (anjnI_4_119 hc)
theorem anjnI_4_122 {z : zjnI_4} (hc : cjnI_4_0 z) : ajnI_4_0 z 10 97 (qjnI_4_0 z 97 []) (HjnI_4_0 z []) := by
  refine any_next [1, 3, 7, 11] (by kernel_rfl) (by decide) fun i hi => ?_
  rcases two4 hi with rfl | rfl | rfl | rfl
  · exact any_one _ (v := vjnI_4_0 z 1) tabok_jnI hojnI_4_1 (trivial) (by kernel_rfl) (by kernel_rfl) (by kernel_rfl) (anjnI_4_93 hc)
  · exact any_one _ (v := vjnI_4_0 z 3) tabok_jnI hojnI_4_3 (trivial) (by kernel_rfl) (by kernel_rfl) (by kernel_rfl) (anjnI_4_114 hc)
  · exact any_one _ (v := vjnI_4_0 z 7) tabok_jnI hojnI_4_7 (trivial) (by
      refine Eq.trans (b := (match decide (0 ≤ (1 : Int) ∧ (1 : Int) ≤ (((yjnI_412 z) : Nat) : Int) ∧ ((((yjnI_412 z) : Nat) : Int) : Int) ≤ (((yjnI_412 z) : Nat) : Int)) with | true => some ((.sl 3 1 (((((yjnI_412 z) : Nat) : Int) - 1).toNat)), [.at (yjnI_41 z) (.fl .f32 (yjnI_42 z)), .at (yjnI_43 z) (.fl .f32 (yjnI_44 z)), .at (yjnI_45 z) (.fl .f32 (yjnI_46 z)), .at (yjnI_47 z) (.fl .f32 (yjnI_48 z)), .at true (.as 1 [.sl 0 0 (yjnI_49 z), .sl 1 0 (yjnI_410 z)]), .at true (.as 1 [.sl 2 0 (yjnI_411 z), .sl 3 0 (yjnI_412 z)]), .at true (.as 1 [.nil, .nil])]) | false => none)) (by kernel_rfl) ?_
      rw [hc.2.1]
      try rfl) (by kernel_rfl) (by kernel_rfl) (anjnI_4_120 hc)
  · exact any_one _ (v := .ptr 7 0) tabok_jnI hojnI_4_11 (trivial) (by kernel_rfl) (by kernel_rfl) (by kernel_rfl) (anjnI_4_121 hc)
theorem anjnI_4_123 {z : zjnI_4} (hc : cjnI_4_0 z) : ajnI_4_0 z 10 2081 (qjnI_4_0 z 2081 [(9, .ptr 7 0)]) (HjnI_4_0 z [4]) := by
  refine any_next [1, 3, 6] (by kernel_rfl) (by decide) fun i hi => ?_
  rcases two3 hi with rfl | rfl | rfl
  · exact any_one _ (v := vjnI_4_0 z 1) tabok_jnI hojnI_4_1 (trivial) (by kernel_rfl) (by kernel_rfl) (by kernel_rfl) (anjnI_4_95 hc)
  · exact any_one _ (v := vjnI_4_0 z 3) tabok_jnI hojnI_4_3 (trivial) (by kernel_rfl) (by kernel_rfl) (by kernel_rfl) (anjnI_4_115 hc)
  · exact any_one _ (v := vjnI_4_0 z 6) tabok_jnI hojnI_4_6 (trivial) (by kernel_rfl) (by kernel_rfl) (by kernel_rfl) (anjnI_4_121 hc)
theorem anjnI_4_124 {z : zjnI_4} (hc : cjnI_4_0 z) : ajnI_4_0 z 11 33 (qjnI_4_0 z 33 []) (HjnI_4_0 z []) := by
  refine any_next [1, 3, 6, 11] (by kernel_rfl) (by decide) fun i hi => ?_
  rcases two4 hi with rfl | rfl | rfl | rfl
  · exact any_one _ (v := vjnI_4_0 z 1) tabok_jnI hojnI_4_1 (trivial) (by kernel_rfl) (by kernel_rfl) (by kernel_rfl) (anjnI_4_96 hc)
  · exact any_one _ (v := vjnI_4_0 z 3) tabok_jnI hojnI_4_3 (trivial) (by kernel_rfl) (by kernel_rfl) (by kernel_rfl) (anjnI_4_116 hc)
  · exact any_one _ (v := vjnI_4_0 z 6) tabok_jnI hojnI_4_6 (trivial) (by kernel_rfl) (by kernel_rfl) (by kernel_rfl) (anjnI_4_122 hc)
  · exact any_one _ (v := .ptr 7 0) tabok_jnI hojnI_4_11 (trivial) (by kernel_rfl) (by kernel_rfl) (by kernel_rfl) (anjnI_4_123 hc)
theorem anjnI_4_125 {z : zjnI_4} (hc : cjnI_4_0 z) : ajnI_4_0 z 11 2049 (qjnI_4_0 z 2049 [(9, .ptr 7 0)]) (HjnI_4_0 z [4]) := by
  refine any_next [1, 3, 5] (by kernel_rfl) (by decide) fun i hi => ?_
  rcases two3 hi with rfl | rfl | rfl
  · exact any_one _ (v := vjnI_4_0 z 1) tabok_jnI hojnI_4_1 (trivial) (by kernel_rfl) (by kernel_rfl) (by kernel_rfl) (anjnI_4_98 hc)
  · exact any_one _ (v := vjnI_4_0 z 3) tabok_jnI hojnI_4_3 (trivial) (by kernel_rfl) (by kernel_rfl) (by kernel_rfl) (anjnI_4_117 hc)
  · exact any_one _ (v := vjnI_4_0 z 5) tabok_jnI hojnI_4_5 (trivial) (by kernel_rfl) (by kernel_rfl) (by kernel_rfl) (anjnI_4_123 hc)
theorem anjnI_4_126 {z : zjnI_4} (hc : cjnI_4_0 z) : ajnI_4_0 z 12 1 (qjnI_4_0 z 1 []) (HjnI_4_0 z []) := by
  refine any_next [1, 3, 5, 11] (by kernel_rfl) (by decide) fun i hi => ?_
  rcases two4 hi with rfl | rfl | rfl | rfl
  · exact any_one _ (v := vjnI_4_0 z 1) tabok_jnI hojnI_4_1 (trivial) (by kernel_rfl) (by kernel_rfl) (by kernel_rfl) (anjnI_4_99 hc)
  · exact any_one _ (v := vjnI_4_0 z 3) tabok_jnI hojnI_4_3 (trivial) (by kernel_rfl) (by kernel_rfl) (by kernel_rfl) (anjnI_4_118 hc)
  · exact any_one _ (v := vjnI_4_0 z 5) tabok_jnI hojnI_4_5 (trivial) (by kernel_rfl) (by kernel_rfl) (by kernel_rfl) (anjnI_4_124 hc)
  · exact any_one _ (v := .ptr 7 0) tabok_jnI hojnI_4_11 (trivial) (by kernel_rfl) (by kernel_rfl) (by kernel_rfl) (anjnI_4_125 hc)
theorem anjnI_4_127 {z : zjnI_4} (hc : cjnI_4_0 z) : ajnI_4_0 z 6 2552 (qjnI_4_0 z 2552 [(9, .ptr 8 0), (80, .sl 7 0 2)]) (HjnI_4_0 z [1, 4]) := by
  refine any_next [0] (by kernel_rfl) (by decide) fun i hi => ?_
  obtain rfl := two1 hi
  · exact any_one _ (v := vjnI_4_0 z 0) tabok_jnI hojnI_4_0 (trivial) (by kernel_rfl) (by kernel_rfl) (by kernel_rfl) (anjnI_4_100 hc)
theorem anjnI_4_128 {z : zjnI_4} (hc : cjnI_4_0 z) : ajnI_4_0 z 7 504 (qjnI_4_0 z 504 [(80, .sl 7 0 2)]) (HjnI_4_0 z [1]) := by
  refine any_next [0, 11] (by kernel_rfl) (by decide) fun i hi => ?_
  rcases two2 hi with rfl | rfl
  · exact any_one _ (v := vjnI_4_0 z 0) tabok_jnI hojnI_4_0 (trivial) (by kernel_rfl) (by kernel_rfl) (by kernel_rfl) (anjnI_4_101 hc)
  · exact any_one _ (v := .ptr 8 0) tabok_jnI hojnI_4_11 (trivial) (by kernel_rfl) (by kernel_rfl) (by kernel_rfl) (anjnI_4_127 hc)
theorem anjnI_4_129 {z : zjnI_4} (hc : cjnI_4_0 z) : ajnI_4_0 z 6 2552 (qjnI_4_0 z 2552 [(9, .ptr 7 0)]) (HjnI_4_0 z [4, 1]) := by
  refine any_next [0] (by kernel_rfl) (by decide) fun i hi => ?_
  obtain rfl := two1 hi
  · exact any_one _ (v := vjnI_4_0 z 0) tabok_jnI hojnI_4_0 (trivial) (by kernel_rfl) (by kernel_rfl) (by kernel_rfl) (anjnI_4_102 hc)
theorem anjnI_4_130 {z : zjnI_4} (hc : cjnI_4_0 z) : ajnI_4_0 z 7 2296 (qjnI_4_0 z 2296 [(9, .ptr 7 0)]) (HjnI_4_0 z [4]) := by
  refine any_next [0, 8] (by kernel_rfl) (by decide) fun i hi => ?_
  rcases two2 hi with rfl | rfl
  · exact any_one _ (v := vjnI_4_0 z 0) tabok_jnI hojnI_4_0 (trivial) (by kernel_rfl) (by kernel_rfl) (by kernel_rfl) (anjnI_4_103 hc)
  · exact any_one _ (v := vjnI_4_0 z 8) tabok_jnI hojnI_4_8 (trivial) (by kernel_rfl) (by kernel_rfl) (by kernel_rfl) (anjnI_4_129 hc)
theorem anjnI_4_131 {z : zjnI_4} (hc : cjnI_4_0 z) : ajnI_4_0 z 8 248 (qjnI_4_0 z 248 []) (HjnI_4_0 z []) := by
  refine any_next [0, 8, 11] (by kernel_rfl) (by decide) fun i hi => ?_
  rcases two3 hi with rfl | rfl | rfl
  · exact any_one _ (v := vjnI_4_0 z 0) tabok_jnI hojnI_4_0 (trivial) (by kernel_rfl) (by kernel_rfl) (by kernel_rfl) (anjnI_4_104 hc)
  · exact any_one _ (v := .sl 7 0 2) tabok_jnI hojnI_4_8 (trivial) (by kernel_rfl) (by kernel_rfl) (by kernel_rfl) (anjnI_4_128 hc)
  · exact any_one _ (v := .ptr 7 0) tabok_jnI hojnI_4_11 (trivial) (by kernel_rfl) (by kernel_rfl) (by kernel_rfl) (anjnI_4_130 hc)
theorem anjnI_4_132 {z : zjnI_4} (hc : cjnI_4_0 z) : ajnI_4_0 z 8 2168 (qjnI_4_0 z 2168 [(9, .ptr 7 0)]) (HjnI_4_0 z [4]) := by
  refine any_next [0, 7] (by kernel_rfl) (by decide) fun i hi => ?_
  rcases two2 hi with rfl | rfl
  · exact any_one _ (v := vjnI_4_0 z 0) tabok_jnI hojnI_4_0 (trivial) (by kernel_rfl) (by kernel_rfl) (by kernel_rfl) (anjnI_4_105 hc)
  · exact any_one _ (v := vjnI_4_0 z 7) tabok_jnI hojnI_4_7 (trivial) (by
      refine Eq.trans (b := (match decide (0 ≤ (1 : Int) ∧ (1 : Int) ≤ (((yjnI_412 z) : Nat) : Int) ∧ ((((yjnI_412 z) : Nat) : Int) : Int) ≤ (((yjnI_412 z) : Nat) : Int)) with | true => some ((.sl 3 1 (((((yjnI_412 z) : Nat) : Int) - 1).toNat)), [.at (yjnI_41 z) (.fl .f32 (yjnI_42 z)), .at (yjnI_43 z) (.fl .f32 (yjnI_44 z)), .at (yjnI_45 z) (.fl .f32 (yjnI_46 z)), .at (yjnI_47 z) (.fl .f32 (yjnI_48 z)), .at true (.as 1 [.sl 0 0 (yjnI_49 z), .sl 1 0 (yjnI_410 z)]), .at true (.as 1 [.sl 2 0 (yjnI_411 z), .sl 3 0 (yjnI_412 z)]), .at true (.as 1 [.nil, .nil]), .at true (.as 1 [.nil, .nil])]) | false => none)) (by kernel_rfl) ?_
      rw [hc.2.1]
      try rfl) (by kernel_rfl) (by kernel_rfl) (anjnI_4_130 hc)
theorem anjnI_4_133 {z : zjnI_4} (hc : cjnI_4_0 z) : ajnI_4_0 z 9 120 (qjnI_4_0 z 120 []) (HjnI_4_0 z []) := by
  refine any_next [0, 7, 11] (by kernel_rfl) (by decide) fun i hi => ?_
  rcases two3 hi with rfl | rfl | rfl
  · exact any_one _ (v := vjnI_4_0 z 0) tabok_jnI hojnI_4_0 (trivial) (by kernel_rfl) (by kernel_rfl) (by kernel_rfl) (anjnI_4_106 hc)
  · exact any_one _ (v := vjnI_4_0 z 7) tabok_jnI hojnI_4_7 (trivial) (by
      refine Eq.trans (b := (match decide (0 ≤ (1 : Int) ∧ (1 : Int) ≤ (((yjnI_412 z) : Nat) : Int) ∧ ((((yjnI_412 z) : Nat) : Int) : Int) ≤ (((yjnI_412 z) : Nat) : Int)) with | true => some ((.sl 3 1 (((((yjnI_412 z) : Nat) : Int) - 1).toNat)), [.at (yjnI_41 z) (.fl .f32 (yjnI_42 z)), .at (yjnI_43 z) (.fl .f32 (yjnI_44 z)), .at (yjnI_45 z) (.fl .f32 (yjnI_46 z)), .at (yjnI_47 z) (.fl .f32 (yjnI_48 z)), .at true (.as 1 [.sl 0 0 (yjnI_49 z), .sl 1 0 (yjnI_410 z)]), .at true (.as 1 [.sl 2 0 (yjnI_411 z), .sl 3 0 (yjnI_412 z)]), .at true (.as 1 [.nil, .nil])]) | false => none)) (by kernel_rfl) ?_
      rw [hc.2.1]
      try rfl) (by kernel_rfl) (by kernel_rfl) (anjnI_4_131 hc)
  · exact any_one _ (v := .ptr 7 0) tabok_jnI hojnI_4_11 (trivial) (by kernel_rfl) (by kernel_rfl) (by kernel_rfl) (anjnI_4_132 hc)
theorem anjnI_4_134 {z : zjnI_4} (hc : cjnI_4_0 z) : ajnI_4_0 z 9 2104 (qjnI_4_0 z 2104 [(9, .ptr 7 0)]) (HjnI_4_0 z [4]) := by
  refine any_next [0, 6] (by kernel_rfl) (by decide) fun i hi => ?_
  rcases two2 hi with rfl | rfl
  · exact any_one _ (v := vjnI_4_0 z 0) tabok_jnI hojnI_4_0 (trivial) (by kernel_rfl) (by kernel_rfl) (by kernel_rfl) (anjnI_4_107 hc)
  · exact any_one _ (v := vjnI_4_0 z 6) tabok_jnI hojnI_4_6 (trivial) (by kernel_rfl) (by kernel_rfl) (by kernel_rfl) (anjnI_4_132 hc)
theorem anjnI_4_135 {z : zjnI_4} (hc : cjnI_4_0 z) : ajnI_4_0 z 10 56 (qjnI_4_0 z 56 []) (HjnI_4_0 z []) := by
  refine any_next [0, 6, 11] (by kernel_rfl) (by decide) fun i hi => ?_
  rcases two3 hi with rfl | rfl | rfl
  · exact any_one _ (v := vjnI_4_0 z 0) tabok_jnI hojnI_4_0 (trivial) (by kernel_rfl) (by kernel_rfl) (by kernel_rfl) (anjnI_4_108 hc)
  · exact any_one _ (v := vjnI_4_0 z 6) tabok_jnI hojnI_4_6 (trivial) (by kernel_rfl) (by kernel_rfl) (by kernel_rfl) (anjnI_4_133 hc)
  · exact any_one _ (v := .ptr 7 0) tabok_jnI hojnI_4_11 (trivial) (by kernel_rfl) (by kernel_rfl) (by kernel_rfl) (anjnI_4_134 hc)
theorem anjnI_4_136 {z : zjnI_4} (hc : cjnI_4_0 z) : ajnI_4_0 z 10 2072 (qjnI_4_0 z 2072 [(9, .ptr 7 0)]) (HjnI_4_0 z [4]) := by
  refine any_next [0, 5] (by kernel_rfl) (by decide) fun i hi => ?_
  rcases two2 hi with rfl | rfl
  · exact any_one _ (v := vjnI_4_0 z 0) tabok_jnI hojnI_4_0 (trivial) (by kernel_rfl) (by kernel_rfl) (by kernel_rfl) (anjnI_4_109 hc)
  · exact any_one _ (v := vjnI_4_0 z 5) tabok_jnI hojnI_4_5 (trivial) (by kernel_rfl) (by kernel_rfl) (by kernel_rfl) (anjnI_4_134 hc)
theorem anjnI_4_137 {z : zjnI_4} (hc : cjnI_4_0 z) : ajnI_4_0 z 11 24 (qjnI_4_0 z 24 []) (HjnI_4_0 z []) := by
  refine any_next [0, 5, 11] (by kernel_rfl) (by decide) fun i hi => ?_
  rcases two3 hi with rfl | rfl | rfl
  · exact any_one _ (v := vjnI_4_0 z 0) tabok_jnI hojnI_4_0 (trivial) (by kernel_rfl) (by kernel_rfl) (by kernel_rfl) (anjnI_4_110 hc)
  · exact any_one _ (v := vjnI_4_0 z 5) tabok_jnI hojnI_4_5 (trivial) (by kernel_rfl) (by kernel_rfl) (by kernel_rfl) (anjnI_4_135 hc)
  · exact any_one _ (v := .ptr 7 0) tabok_jnI hojnI_4_11 (trivial) (by kernel_rfl) (by kernel_rfl) (by kernel_rfl) (anjnI_4_136 hc)
theorem anjnI_4_138 {z : zjnI_4} (hc : cjnI_4_0 z) : ajnI_4_0 z 8 2280 (qjnI_4_0 z 2280 [(9, .ptr 7 0)]) (HjnI_4_0 z [4]) := by
  refine any_next [0, 4] (by kernel_rfl) (by decide) fun i hi => ?_
  rcases two2 hi with rfl | rfl
  · exact any_one _ (v := vjnI_4_0 z 0) tabok_jnI hojnI_4_0 (trivial) (by kernel_rfl) (by kernel_rfl) (by kernel_rfl) (anjnI_4_111 hc)
  · exact any_one _ (v := vjnI_4_0 z 4) tabok_jnI hojnI_4_4 (trivial) (by kernel_rfl) (by kernel_rfl) (by kernel_rfl) (anjnI_4_130 hc)
theorem anjnI_4_139 {z : zjnI_4} (hc : cjnI_4_0 z) : ajnI_4_0 z 9 232 (qjnI_4_0 z 232 []) (HjnI_4_0 z []) := by
  refine any_next [0, 4, 11] (by kernel_rfl) (by decide) fun i hi => ?_
  rcases two3 hi with rfl | rfl | rfl
  · exact any_one _ (v := vjnI_4_0 z 0) tabok_jnI hojnI_4_0 (trivial) (by kernel_rfl) (by kernel_rfl) (by kernel_rfl) (anjnI_4_112 hc)
  · exact any_one _ (v := vjnI_4_0 z 4) tabok_jnI hojnI_4_4 (trivial) (by kernel_rfl) (by kernel_rfl) (by kernel_rfl) (anjnI_4_131 hc)
  · exact any_one _ (v := .ptr 7 0) tabok_jnI hojnI_4_11 (trivial) (by kernel_rfl) (by kernel_rfl) (by kernel_rfl) (anjnI_4_138 hc)
theorem anjnI_4_140 {z : zjnI_4} (hc : cjnI_4_0 z) : ajnI_4_0 z 9 2152 (qjnI_4_0 z 2152 [(9, .ptr 7 0)]) (HjnI_4_0 z [4]) := by
  refine any_next [0, 4, 7] (by kernel_rfl) (by decide) fun i hi => ?_
  rcases two3 hi with rfl | rfl | rfl
  · exact any_one _ (v := vjnI_4_0 z 0) tabok_jnI hojnI_4_0 (trivial) (by kernel_rfl) (by kernel_rfl) (by kernel_rfl) (anjnI_4_113 hc)
  · exact any_one _ (v := vjnI_4_0 z 4) tabok_jnI hojnI_4_4 (trivial) (by kernel_rfl) (by kernel_rfl) (by kernel_rfl) (anjnI_4_132 hc)
  · exact any_one _ (v := vjnI_4_0 z 7) tabok_jnI hojnI_4_7 (trivial) (by
      refine Eq.trans (b := (match decide (0 ≤ (1 : Int) ∧ (1 : Int) ≤ (((yjnI_412 z) : Nat) : Int) ∧ ((((yjnI_412 z) : Nat) : Int) : Int) ≤ (((yjnI_412 z) : Nat) : Int)) with | true => some ((.sl 3 1 (((((yjnI_412 z) : Nat) : Int) - 1).toNat)), [.at (yjnI_41 z) (.fl .f32 (yjnI_42 z)), .at (yjnI_43 z) (.fl .f32 (yjnI_44 z)), .at (yjnI_45 z) (.fl .f32 (yjnI_46 z)), .at (yjnI_47 z) (.fl .f32 (yjnI_48 z)), .at true (.as 1 [.sl 0 0 (yjnI_49 z), .sl 1 0 (yjnI_410 z)]), .at true (.as 1 [.sl 2 0 (yjnI_411 z), .sl 3 0 (yjnI_412 z)]), .at true (.as 1 [.nil, .nil]), .at true (.as 1 [.nil, .nil])]) | false => none)) (by kernel_rfl) ?_
      rw [hc.2.1]
      try rfl) (by kernel_rfl) (by kernel_rfl) (anjnI_4_138 hc)
theorem anjnI_4_141 {z : zjnI_4} (hc : cjnI_4_0 z) : ajnI_4_0 z 10 104 (qjnI_4_0 z 104 []) (HjnI_4_0 z []) := by
  refine any_next [0, 4, 7, 11] (by kernel_rfl) (by decide) fun i hi => ?_
  rcases two4 hi with rfl | rfl | rfl | rfl
  · exact any_one _ (v := vjnI_4_0 z 0) tabok_jnI hojnI_4_0 (trivial) (by kernel_rfl) (by kernel_rfl) (by kernel_rfl) (anjnI_4_114 hc)
  · exact any_one _ (v := vjnI_4_0 z 4) tabok_jnI hojnI_4_4 (trivial) (by kernel_rfl) (by kernel_rfl) (by kernel_rfl) (anjnI_4_133 hc)
  · exact any_one _ (v := vjnI_4_0 z 7) tabok_jnI hojnI_4_7 (trivial) (by
      refine Eq.trans (b := (match decide (0 ≤ (1 : Int) ∧ (1 : Int) ≤ (((yjnI_412 z) : Nat) : Int) ∧ ((((yjnI_412 z) : Nat) : Int) : Int) ≤ (((yjnI_412 z) : Nat) : Int)) with | true => some ((.sl 3 1 (((((yjnI_412 z) : Nat) : Int) - 1).toNat)), [.at (yjnI_41 z) (.fl .f32 (yjnI_42 z)), .at (yjnI_43 z) (.fl .f32 (yjnI_44 z)), .at (yjnI_45 z) (.fl .f32 (yjnI_46 z)), .at (yjnI_47 z) (.fl .f32 (yjnI_48 z)), .at true (.as 1 [.sl 0 0 (yjnI_49 z), .sl 1 0 (yjnI_410 z)]), .at true (.as 1 [.sl 2 0 (yjnI_411 z), .sl 3 0 (yjnI_412 z)]), .at true (.as 1 [.nil, .nil])]) | false => none)) (by kernel_rfl) ?_
      rw [hc.2.1]
      try rfl) (by kernel_rfl) (by kernel_rfl) (anjnI_4_139 hc)
  · exact any_one _ (v := .ptr 7 0) tabok_jnI hojnI_4_11 (trivial) (by kernel_rfl) (by kernel_rfl) (by kernel_rfl) (anjnI_4_140 hc)
theorem anjnI_4_142 {z : zjnI_4} (hc : cjnI_4_0 z) : ajnI_4_0 z 10 2088 (qjnI_4_0 z 2088 [(9, .ptr 7 0)]) (HjnI_4_0 z [4]) := by
  refine any_next [0, 4, 6] (by kernel_rfl) (by decide) fun i hi => ?_
  rcases two3 hi with rfl | rfl | rfl
  · exact any_one _ (v := vjnI_4_0 z 0) tabok_jnI hojnI_4_0 (trivial) (by kernel_rfl) (by kernel_rfl) (by kernel_rfl) (anjnI_4_115 hc)
  · exact any_one _ (v := vjnI_4_0 z 4) tabok_jnI hojnI_4_4 (trivial) (by kernel_rfl) (by kernel_rfl) (by kernel_rfl) (anjnI_4_134 hc)
  · exact any_one _ (v := vjnI_4_0 z 6) tabok_jnI hojnI_4_6 (trivial) (by kernel_rfl) (by kernel_rfl) (by kernel_rfl) (anjnI_4_140 hc)
theorem anjnI_4_143 {z : zjnI_4} (hc : cjnI_4_0 z) : ajnI_4_0 z 11 40 (qjnI_4_0 z 40 []) (HjnI_4_0 z []) := by
  refine any_next [0, 4, 6, 11] (by kernel_rfl) (by decide) fun i hi => ?_
  rcases two4 hi with rfl | rfl | rfl | rfl
  · exact any_one _ (v := vjnI_4_0 z 0) tabok_jnI hojnI_4_0 (trivial) (by kernel_rfl) (by kernel_rfl) (by kernel_rfl) (anjnI_4_116 hc)
  · exact any_one _ (v := vjnI_4_0 z 4) tabok_jnI hojnI_4_4 (trivial) (by kernel_rfl) (by kernel_rfl) (by kernel_rfl) (anjnI_4_135 hc)
  · exact any_one _ (v := vjnI_4_0 z 6) tabok_jnI hojnI_4_6 (trivial) (by kernel_rfl) (by kernel_rfl) (by kernel_rfl) (anjnI_4_141 hc)
  · exact any_one _ (v := .ptr 7 0) tabok_jnI hojnI_4_11 (trivial) (by kernel_rfl) (by kernel_rfl) (by kernel_rfl) (anjnI_4_142 hc)
theorem anjnI_4_144 {z : zjnI_4} (hc : cjnI_4_0 z) : ajnI_4_0 z 11 2056 (qjnI_4_0 z 2056 [(9, .ptr 7 0)]) (HjnI_4_0 z [4]) := by
  refine any_next [0, 4, 5] (by kernel_rfl) (by decide) fun i hi => ?_
  rcases two3 hi with rfl | rfl | rfl
  · exact any_one _ (v := vjnI_4_0 z 0) tabok_jnI hojnI_4_0 (trivial) (by kernel_rfl) (by kernel_rfl) (by kernel_rfl) (anjnI_4_117 hc)
  · exact any_one _ (v := vjnI_4_0 z 4) tabok_jnI hojnI_4_4 (trivial) (by kernel_rfl) (by kernel_rfl) (by kernel_rfl) (anjnI_4_136 hc)
  · exact any_one _ (v := vjnI_4_0 z 5) tabok_jnI hojnI_4_5 (trivial) (by kernel_rfl) (by kernel_rfl) (by kernel_rfl) (anjnI_4_142 hc)
theorem anjnI_4_145 {z : zjnI_4} (hc : cjnI_4_0 z) : ajnI_4_0 z 12 8 (qjnI_4_0 z 8 []) (HjnI_4_0 z []) := by
  refine any_next [0, 4, 5, 11] (by kernel_rfl) (by decide) fun i hi => ?_
  rcases two4 hi with rfl | rfl | rfl | rfl
  · exact any_one _ (v := vjnI_4_0 z 0) tabok_jnI hojnI_4_0 (trivial) (by kernel_rfl) (by kernel_rfl) (by kernel_rfl) (anjnI_4_118 hc)
  · exact any_one _ (v := vjnI_4_0 z 4) tabok_jnI hojnI_4_4 (trivial) (by kernel_rfl) (by kernel_rfl) (by kernel_rfl) (anjnI_4_137 hc)
  · exact any_one _ (v := vjnI_4_0 z 5) tabok_jnI hojnI_4_5 (trivial) (by kernel_rfl) (by kernel_rfl) (by kernel_rfl) (anjnI_4_143 hc)
  · exact any_one _ (v := .ptr 7 0) tabok_jnI hojnI_4_11 (trivial) (by kernel_rfl) (by kernel_rfl) (by kernel_rfl) (anjnI_4_144 hc)
theorem anjnI_4_146 {z : zjnI_4} (hc : cjnI_4_0 z) : ajnI_4_0 z 9 2272 (qjnI_4_0 z 2272 [(9, .ptr 7 0)]) (HjnI_4_0 z [4]) := by
  refine any_next [0, 3] (by kernel_rfl) (by decide) fun i hi => ?_
  rcases two2 hi with rfl | rfl
  · exact any_one _ (v := vjnI_4_0 z 0) tabok_jnI hojnI_4_0 (trivial) (by kernel_rfl) (by kernel_rfl) (by kernel_rfl) (anjnI_4_119 hc)
  · exact any_one _ (v := vjnI_4_0 z 3) tabok_jnI hojnI_4_3 (trivial) (by kernel_rfl) (by kernel_rfl) (by kernel_rfl) (anjnI_4_138 hc)
theorem anjnI_4_147 {z : zjnI_4} (hc : cjnI_4_0 z) : ajnI_4_0 z 10 224 (qjnI_4_0 z 224 []) (HjnI_4_0 z []) := by
  refine any_next [0, 3, 11] (by kernel_rfl) (by decide) fun i hi => ?_
  rcases two3 hi with rfl | rfl | rfl
  · exact any_one _ (v := vjnI_4_0 z 0) tabok_jnI hojnI_4_0 (trivial) (by kernel_rfl) (by kernel_rfl) (by kernel_rfl) (anjnI_4_120 hc)
  · exact any_one _ (v := vjnI_4_0 z 3) tabok_jnI hojnI_4_3 (trivial) (by kernel_rfl) (by kernel_rfl) (by kernel_rfl) (anjnI_4_139 hc)
  · exact any_one _ (v := .ptr 7 0) tabok_jnI hojnI_4_11 (trivial) (by kernel_rfl) (by kernel_rfl) (by kernel_rfl) (anjnI_4_146 hc)
theorem anjnI_4_148 {z : zjnI_4} (hc : cjnI_4_0 z) : ajnI_4_0 z 10 2144 (qjnI_4_0 z 2144 [(9, .ptr 7 0)]) (HjnI_4_0 z [4]) := by
  refine any_next [0, 3, 7] (by kernel_rfl) (by decide) fun i hi => ?_
  rcases two3 hi with rfl | rfl | rfl
  · exact any_one _ (v := vjnI_4_0 z 0) tabok_jnI hojnI_4_0 (trivial) (by kernel_rfl) (by kernel_rfl) (by kernel_rfl) (anjnI_4_121 hc)
  · exact any_one _ (v := vjnI_4_0 z 3) tabok_jnI hojnI_4_3 (trivial) (by kernel_rfl) (by kernel_rfl) (by kernel_rfl) (anjnI_4_140 hc)
  · exact any_one _ (v := vjnI_4_0 z 7) tabok_jnI hojnI_4_7 (trivial) (by
      refine Eq.trans (b := (match decide (0 ≤ (1 : Int) ∧ (1 : Int) ≤ (((yjnI_412 z) : Nat) : Int) ∧ ((((yjnI_412 z) : Nat) : Int) : Int) ≤ (((yjnI_412 z) : Nat) : Int)) with | true => some ((.sl 3 1 (((((yjnI_412 z) : Nat) : Int) - 1).toNat)), [.at (yjnI_41 z) (.fl .f32 (yjnI_42 z)), .at (yjnI_43 z) (.fl .f32 (yjnI_44 z)), .at (yjnI_45 z) (.fl .f32 (yjnI_46 z)), .at (yjnI_47 z) (.fl .f32 (yjnI_48 z)), .at true (.as 1 [.sl 0 0 (yjnI_49 z), .sl 1 0 (yjnI_410 z)]), .at true (.as 1 [.sl 2 0 (yjnI_411 z), .sl 3 0 (yjnI_412 z)]), .at true (.as 1 [.nil, .nil]), .at true (.as 1 [.nil, .nil])]) | false => none)) (by kernel_rfl) ?_
      rw [hc.2.1]
      try rfl) (by kernel_rfl) (by kernel_rfl) (anjnI_4_146 hc)
theorem anjnI_4_149 {z : zjnI_4} (hc : cjnI_4_0 z) : ajnI_4_0 z 11 96 (qjnI_4_0 z 96 []) (HjnI_4_0 z []) := by
  refine any_next [0, 3, 7, 11] (by kernel_rfl) (by decide) fun i hi => ?_
  rcases two4 hi with rfl | rfl | rfl | rfl
  · exact any_one _ (v := vjnI_4_0 z 0) tabok_jnI hojnI_4_0 (trivial) (by kernel_rfl) (by kernel_rfl) (by kernel_rfl) (anjnI_4_122 hc)
  · exact any_one _ (v := vjnI_4_0 z 3) tabok_jnI hojnI_4_3 (trivial) (by kernel_rfl) (by kernel_rfl) (by kernel_rfl) (anjnI_4_141 hc)
  · exact any_one _ (v := vjnI_4_0 z 7) tabok_jnI hojnI_4_7 (trivial) (by
      refine Eq.trans (b := (match decide (0 ≤ (1 : Int) ∧ (1 : Int) ≤ (((yjnI_412 z) : Nat) : Int) ∧ ((((yjnI_412 z) : Nat) : Int) : Int) ≤ (((yjnI_412 z) : Nat) : Int)) with | true => some ((.sl 3 1 (((((yjnI_412 z) : Nat) : Int) - 1).toNat)), [.at (yjnI_41 z) (.fl .f32 (yjnI_42 z)), .at (yjnI_43 z) (.fl .f32 (yjnI_44 z)), .at (yjnI_45 z) (.fl .f32 (yjnI_46 z)), .at (yjnI_47 z) (.fl .f32 (yjnI_48 z)), .at true (.as 1 [.sl 0 0 (yjnI_49 z), .sl 1 0 (yjnI_410 z)]), .at true (.as 1 [.sl 2 0 (yjnI_411 z), .sl 3 0 (yjnI_412 z)]), .at true (.as 1 [.nil, .nil])]) | false => none)) (by kernel_rfl) ?_
      rw [hc.2.1]
      try rfl) (by kernel_rfl) (by kernel_rfl) (anjnI_4_147 hc)
  · exact any_one _ (v := .ptr 7 0) tabok_jnI hojnI_4_11 (trivial) (by kernel_rfl) (by kernel_rfl) (by kernel_rfl) (anjnI_4_148 hc)
theorem anjnI_4_150 {z : zjnI_4} (hc : cjnI_4_0 z) : ajnI_4_0 z 11 2080 (qjnI_4_0 z 2080 [(9, .ptr 7 0)]) (HjnI_4_0 z [4]) := by
  refine any_next [0, 3, 6] (by kernel_rfl) (by decide) fun i hi => ?_
  rcases two3 hi with rfl | rfl | rfl
  · exact any_one _ (v := vjnI_4_0 z 0) tabok_jnI hojnI_4_0 (trivial) (by kernel_rfl) (by kernel_rfl) (by kernel_rfl) (anjnI_4_123 hc)
  · exact any_one _ (v := vjnI_4_0 z 3) tabok_jnI hojnI_4_3 (trivial) (by kernel_rfl) (by kernel_rfl) (by kernel_rfl) (anjnI_4_142 hc)
  · exact any_one _ (v := vjnI_4_0 z 6) tabok_jnI hojnI_4_6 (trivial) (by kernel_rfl) (by kernel_rfl) (by kernel_rfl) (anjnI_4_148 hc)
theorem anjnI_4_151 {z : zjnI_4} (hc : cjnI_4_0 z) : ajnI_4_0 z 12 32 (qjnI_4_0 z 32 []) (HjnI_4_0 z []) := by
  refine any_next [0, 3, 6, 11] (by kernel_rfl) (by decide) fun i hi => ?_
  rcases two4 hi with rfl | rfl | rfl | rfl
  · exact any_one _ (v := vjnI_4_0 z 0) tabok_jnI hojnI_4_0 (trivial) (by kernel_rfl) (by kernel_rfl) (by kernel_rfl) (anjnI_4_124 hc)
  · exact any_one _ (v := vjnI_4_0 z 3) tabok_jnI hojnI_4_3 (trivial) (by kernel_rfl) (by kernel_rfl) (by kernel_rfl) (anjnI_4_143 hc)
  · exact any_one _ (v := vjnI_4_0 z 6) tabok_jnI hojnI_4_6 (trivial) (by kernel_rfl) (by kernel_rfl) (by kernel_rfl) (anjnI_4_149 hc)
  · exact any_one _ (v := .ptr 7 0) tabok_jnI hojnI_4_11 (trivial) (by kernel_rfl) (by kernel_rfl) (by kernel_rfl) (anjnI_4_150 hc)
theorem anjnI_4_152 {z : zjnI_4} (hc : cjnI_4_0 z) : ajnI_4_0 z 12 2048 (qjnI_4_0 z 2048 [(9, .ptr 7 0)]) (HjnI_4_0 z [4]) := by
  refine any_next [0, 3, 5] (by kernel_rfl) (by decide) fun i hi => ?_
  rcases two3 hi with rfl | rfl | rfl
  · exact any_one _ (v := vjnI_4_0 z 0) tabok_jnI hojnI_4_0 (trivial) (by kernel_rfl) (by kernel_rfl) (by kernel_rfl) (anjnI_4_125 hc)
  · exact any_one _ (v := vjnI_4_0 z 3) tabok_jnI hojnI_4_3 (trivial) (by kernel_rfl) (by kernel_rfl) (by kernel_rfl) (anjnI_4_144 hc)
  · exact any_one _ (v := vjnI_4_0 z 5) tabok_jnI hojnI_4_5 (trivial) (by kernel_rfl) (by kernel_rfl) (by kernel_rfl) (anjnI_4_150 hc)
theorem anjnI_4_153 {z : zjnI_4} (hc : cjnI_4_0 z) : ajnI_4_0 z 13 0 (qjnI_4_0 z 0 []) (HjnI_4_0 z []) := by
  refine any_next [0, 3, 5, 11] (by kernel_rfl) (by decide) fun i hi => ?_
  rcases two4 hi with rfl | rfl | rfl | rfl
  · exact any_one _ (v := vjnI_4_0 z 0) tabok_jnI hojnI_4_0 (trivial) (by kernel_rfl) (by kernel_rfl) (by kernel_rfl) (anjnI_4_126 hc)
  · exact any_one _ (v := vjnI_4_0 z 3) tabok_jnI hojnI_4_3 (trivial) (by kernel_rfl) (by kernel_rfl) (by kernel_rfl) (anjnI_4_145 hc)
  · exact any_one _ (v := vjnI_4_0 z 5) tabok_jnI hojnI_4_5 (trivial) (by kernel_rfl) (by kernel_rfl) (by kernel_rfl) (anjnI_4_151 hc)
  · exact any_one _ (v := .ptr 7 0) tabok_jnI hojnI_4_11 (trivial) (by kernel_rfl) (by kernel_rfl) (by kernel_rfl) (anjnI_4_152 hc)
theorem toljnI_4_0 (z3 : Nat) (z4 : Bool) (z5 : List Nat) (z6 : Bool) (z7 : List Nat) (z8 : Bool) (z9 : List Nat) (z10 : Bool) (z11 : List Nat) (z13 : Nat) (z15 : Nat) (z17 : Nat) (z19 : Nat) (hc : cjnI_4_0 (z3, z4, z5, z6, z7, z8, z9, z10, z11, z13, z15, z17, z19)) {st : St} (hl : st.t.length = 103) (et : viewT [3, 4, 6, 8] 103 st.t = (.any :: .any :: .any :: .ptr 4 0 :: .ptr 5 0 :: .any :: .ptr 6 0 :: .any :: .fl .f32 z3 :: (anys 94 []))) (eh : st.h = [.at z4 (.fl .f32 z5), .at z6 (.fl .f32 z7), .at z8 (.fl .f32 z9), .at z10 (.fl .f32 z11), .at true (.as 1 [.sl 0 0 z13, .sl 1 0 z15]), .at true (.as 1 [.sl 2 0 z17, .sl 3 0 z19]), .at true (.as 1 [.nil, .nil])]) {μ0 : Mu} {h0 : H} {w0 : World} {Q : Exit → Act → World → Prop} (hQ : ∀ μ a w, Inv μ0 h0 w0 μ (⟨(.any :: .any :: .any :: .any :: .ptr 5 0 :: .any :: .ptr 6 0 :: .any :: .fl .f32 z3 :: .ptr 7 0 :: (anys 93 [])), [.at z4 (.fl .f32 z5), .at z6 (.fl .f32 z7), .at z8 (.fl .f32 z9), .at z10 (.fl .f32 z11), .at true (.as 1 [.sl 0 0 z13, .sl 1 0 z15]), .at true (.as 1 [.sl 2 0 z17, .sl 3 0 z19]), .at true (.as 1 [.nil, .nil]), .at true (.as 1 [.sl 8 0 z13, .sl 9 0 (z15 + ((((z19 : Nat) : Int) - 1).toNat))]), .at true (.fl .f32 z5), .at true (.fl .f32 (z7 ++ (z11.drop 1).take ((((z19 : Nat) : Int) - 1).toNat)))]⟩ : St) a w → Q .normal a w) {μ : Mu} {a : Act} {w : World} (hi : Inv μ0 h0 w0 μ st a w) : (Code.region 4 opsjnI_4 true).wp Try.prog Q a w :=
  told (L0 := bitsA 13 0) (T0 := qjnI_4_0 (z3, z4, z5, z6, z7, z8, z9, z10, z11, z13, z15, z17, z19) 0 []) (H0 := HjnI_4_0 (z3, z4, z5, z6, z7, z8, z9, z10, z11, z13, z15, z17, z19) []) [4, 6, 8, 9] mixed (by kernel_rfl : opsjnI_4.size = 13) (by kernel_rfl) hl (et.trans (by kernel_rfl)) (eh.trans (by kernel_rfl)) rfl (anjnI_4_153 hc) hQ hi
set_option maxRecDepth 100000 in
theorem sndjnI_4 : GSound1 Try.prog 4 opsjnI_4 true gjnI_4 := by
  intro μ0 h0 w0 st st' hg Q hQ μ a w hi
  unfold gjnI_4 at hg
  split at hg
  case h_2 => cases hg
  rename_i hl_
  have hl_ := of_decide_eq_true hl_
  split at hg
  case h_2 => cases hg
  rename_i e3_
  split at hg
  case h_2 => cases hg
  rename_i e4_
  split at hg
  case h_2 => cases hg
  rename_i e6_
  split at hg
  case h_2 => cases hg
  rename_i z3 e8_
  split at hg
  case h_2 => cases hg
  rename_i z4 z5 z6 z7 z8 z9 z10 z11 z13 z15 z17 z19 eh_
  have hg := Option.some.inj hg
  have hc := congrArg Prod.fst hg
  have hg := congrArg Prod.snd hg
  dsimp only at hc hg
  subst hg
  obtain ⟨hc, hc2⟩ := Bool.and_eq_true_iff.mp hc
  obtain ⟨hc, hc1⟩ := Bool.and_eq_true_iff.mp hc
  have hc0 := hc
  exact toljnI_4_0 z3 z4 z5 z6 z7 z8 z9 z10 z11 z13 z15 z17 z19 ⟨hc0, hc1, hc2⟩ hl_ ((view_congr (T0 := (.any :: .any :: .any :: .ptr 4 0 :: .ptr 5 0 :: .any :: .ptr 6 0 :: .any :: .fl .f32 z3 :: (anys 94 []))) (fun i hi => by
    simp only [List.mem_cons, List.not_mem_nil, or_false] at hi
    rcases hi with rfl | rfl | rfl | rfl
    · exact e3_.trans rfl
    · exact e4_.trans rfl
    · exact e6_.trans rfl
    · exact e8_.trans rfl)).trans (by kernel_rfl)) eh_ hQ hi
noncomputable def gs_jnI : GsA := fun i => if i = 4 then some (tu1 gjnI_4) else none
theorem regs_jnI : (regList (codeOf Try.f22)).filter (fun p => (gs_jnI p.1).isSome) = [(4, opsjnI_4, true)] := by kernel_rfl
theorem regOk_jnI : RegOkA Try.prog gs_jnI (codeOf Try.f22) := by
  refine regOk_list _ fun p hp g hg => ?_
  have h : p ∈ (regList (codeOf Try.f22)).filter (fun p => (gs_jnI p.1).isSome) := List.mem_filter.2 ⟨hp, by rw [hg]; rfl⟩
  rw [regs_jnI] at h
  simp only [List.mem_cons, List.not_mem_nil, or_false] at h
  rcases h with rfl
  · cases hg; exact tu1_snd sndjnI_4
def st_jnI6 (by8 : Nat) (t84n : Nat) (t85 : Int) (t86 : Int) (rw0 : Bool) (l0 : List Nat) (rw1 : Bool) (l1 : List Nat) (rw2 : Bool) (l2 : List Nat) (rw3 : Bool) (l3 : List Nat) (b5_0n : Nat) (b5_1n : Nat) (l6 : List Nat) (l7 : List Nat) : St := ⟨(anys 6 (.ptr 4 0 :: .any :: .fl .f32 by8 :: .ptr 5 0 :: (anys 74 (.sl 2 0 t84n :: .int .i64 t85 :: .int .i64 t86 :: (anys 16 []))))), [.at rw0 (.fl .f32 l0), .at rw1 (.fl .f32 l1), .at rw2 (.fl .f32 l2), .at rw3 (.fl .f32 l3), .at true (.as 1 [.nil, .nil]), .at true (.as 1 [.sl 6 0 b5_0n, .sl 7 0 b5_1n]), .at true (.fl .f32 l6), .at true (.fl .f32 l7)]⟩
abbrev kp_jnI6 : Option (List Nat × List Nat) := some ([6, 8, 9, 84, 85, 86], [6, 9])
noncomputable def lp_jnI6 {R : Type} (N M : Nat) (s : St) (K : X → St → Option R) : Option R := loopH 4 kp_jnI6 (fun st K => execA ty tab_jnI an_jnI gs_jnI N 4 (atOf [true, true, true, true, false, true, false, false] Try.f22) st K) M s K
noncomputable def kt_jnI6 {R : Type} (N : Nat) (K : X → St → Option R) : X → St → Option R := kBlkR 0 (kSeqA tab_jnI an_jnI gs_jnI N 4 (atOf [true, true, true, true, true] Try.f22) (K))
def en_jnI6_0 (rw0 : Bool) (l0 : List Nat) (rw1 : Bool) (l1 : List Nat) (rw2 : Bool) (l2 : List Nat) (rw3 : Bool) (l3 : List Nat) (b5_0n : Nat) (b5_1n : Nat) (l6 : List Nat) (l7 : List Nat) : St := ⟨(anys 6 (.ptr 4 0 :: .any :: .any :: .ptr 5 0 :: (anys 93 []))), [.at rw0 (.fl .f32 l0), .at rw1 (.fl .f32 l1), .at rw2 (.fl .f32 l2), .at rw3 (.fl .f32 l3), .at true (.as 1 [.nil, .nil]), .at true (.as 1 [.sl 6 0 b5_0n, .sl 7 0 b5_1n]), .at true (.fl .f32 l6), .at true (.fl .f32 l7)]⟩
theorem run_jnI (N : Nat) (n : Nat) (m : Nat) (q : Nat) (k : Nat) (g : Nat) (r0 : Bool) (l0 : List Nat) (r1 : Bool) (l1 : List Nat) (r2 : Bool) (l2 : List Nat) (r3 : Bool) (l3 : List Nat) : runA ty tab_jnI an_jnI gs_jnI N Try.f22 [.g [.sl 0 0 n, .sl 1 0 m], .g [.sl 2 0 q, .sl 3 0 k], .fl .f32 g] [.at r0 (.fl .f32 l0), .at r1 (.fl .f32 l1), .at r2 (.fl .f32 l2), .at r3 (.fl .f32 l3)]
    = (match decide (l0.length = n ∧ n < 2147483648 ∧ l1.length = m ∧ m < 2147483648) with | true => (match !(vsB l0 l1) with | true => some (.tup [.g [.nil, .nil], .a (.bool false)], [.at r0 (.fl .f32 l0), .at r1 (.fl .f32 l1), .at r2 (.fl .f32 l2), .at r3 (.fl .f32 l3)]) | false => (match decide (l2.length = q ∧ q < 2147483648 ∧ l3.length = k ∧ k < 2147483648) with | true => (match !(vsB l2 l3) with | true => some (.tup [.g [.nil, .nil], .a (.bool false)], [.at r0 (.fl .f32 l0), .at r1 (.fl .f32 l1), .at r2 (.fl .f32 l2), .at r3 (.fl .f32 l3)]) | false => (match !(finB g) with | true => some (.tup [.g [.nil, .nil], .a (.bool false)], [.at r0 (.fl .f32 l0), .at r1 (.fl .f32 l1), .at r2 (.fl .f32 l2), .at r3 (.fl .f32 l3)]) | false => (match ltB g 0 || eqB g 0 with | true => some (.tup [.g [.nil, .nil], .a (.bool false)], [.at r0 (.fl .f32 l0), .at r1 (.fl .f32 l1), .at r2 (.fl .f32 l2), .at r3 (.fl .f32 l3)]) | false => (match ((n : Nat) : Int) == 0 with | true => some (.tup [.g [.nil, .nil], .a (.bool false)], [.at r0 (.fl .f32 l0), .at r1 (.fl .f32 l1), .at r2 (.fl .f32 l2), .at r3 (.fl .f32 l3)]) | false => (match ((q : Nat) : Int) == 0 with | true => some (.tup [.g [.nil, .nil], .a (.bool false)], [.at r0 (.fl .f32 l0), .at r1 (.fl .f32 l1), .at r2 (.fl .f32 l2), .at r3 (.fl .f32 l3)]) | false => (match decide (0 ≤ (((n : Nat) : Int) : Int) ∧ (((n : Nat) : Int) : Int) < ((m : Nat) : Int)) with | true => (match l1[0 + (((n : Nat) : Int)).toNat * 1]? with | some e1 => (match decide (0 ≤ (0 : Int) ∧ (0 : Int) < ((k : Nat) : Int)) with | true => (match l3[0]? with | some e2 => (match decide (e1 < 4294967296 ∧ e2 < 4294967296) with | true => (match !(sN e1 e2) with | true => some (.tup [.g [.nil, .nil], .a (.bool false)], [.at r0 (.fl .f32 l0), .at r1 (.fl .f32 l1), .at r2 (.fl .f32 l2), .at r3 (.fl .f32 l3)]) | false => (match decide (0 ≤ (IntKind.i64.wrap (((n : Nat) : Int) - 1) : Int) ∧ (IntKind.i64.wrap (((n : Nat) : Int) - 1) : Int) < ((n : Nat) : Int)) with | true => (match l0[0 + (IntKind.i64.wrap (((n : Nat) : Int) - 1)).toNat * 1]? with | some e3 => (match decide (0 ≤ (0 : Int) ∧ (0 : Int) < ((q : Nat) : Int)) with | true => (match l2[0]? with | some e4 => (match (decide (l0.length = n ∧ 1 ≤ n ∧ n < 2147483648)) && (decide (0 ≤ (1 : Int) ∧ (1 : Int) ≤ ((k : Nat) : Int) ∧ (((k : Nat) : Int) : Int) ≤ ((k : Nat) : Int))) && (decide (l1.length = m ∧ 1 + ((((k : Nat) : Int) - 1).toNat) ≤ l3.length ∧ 0 < m ∧ m < 1000 ∧ (((k : Nat) : Int) - 1).toNat < 1000)) with | true => lp_jnI6 N N (st_jnI6 (fop .sub .f32 (fop .add .f32 e3 g) e4) q ((q : Nat) : Int) 0 r0 l0 r1 l1 r2 l2 r3 l3 n (m + ((((k : Nat) : Int) - 1).toNat)) l0 (l1 ++ (l3.drop 1).take ((((k : Nat) : Int) - 1).toNat))) (kt_jnI6 N (kEndA Try.f22 4)) | false => none) | none => none) | false => none) | none => none) | false => none)) | false => none) | none => none) | false => none) | none => none) | false => none)))))) | false => none)) | false => none) := by
  kernel_rfl
theorem step_jnI6 {R : Type} (N M : Nat) (K : X → St → Option R) (by8 : Nat) (t84n : Nat) (t85 : Int) (t86 : Int) (rw0 : Bool) (l0 : List Nat) (rw1 : Bool) (l1 : List Nat) (rw2 : Bool) (l2 : List Nat) (rw3 : Bool) (l3 : List Nat) (b5_0n : Nat) (b5_1n : Nat) (l6 : List Nat) (l7 : List Nat) : lp_jnI6 N (M + 1) (st_jnI6 by8 t84n t85 t86 rw0 l0 rw1 l1 rw2 l2 rw3 l3 b5_0n b5_1n l6 l7) K
    = (match decide ((t86 : Int) < t85) with | true => (match decide (0 ≤ (t86 : Int) ∧ (t86 : Int) < ((t84n : Nat) : Int)) with | true => (match l2[0 + (t86).toNat * 1]? with | some e1 => (match apok true b5_0n 1 l6.length 1 (b5_0n + 1) 4 with | true => lp_jnI6 N M (st_jnI6 by8 t84n t85 (IntKind.i64.wrap (t86 + 1)) rw0 l0 rw1 l1 rw2 l2 rw3 l3 (b5_0n + 1) b5_1n (l6 ++ [fop .add .f32 e1 by8]) l7) K | false => none) | none => none) | false => none) | false => K (.exit 0) (en_jnI6_0 rw0 l0 rw1 l1 rw2 l2 rw3 l3 b5_0n b5_1n l6 l7)) := by
  kernel_rfl
theorem end_jnI6_0 (N : Nat) (rw0 : Bool) (l0 : List Nat) (rw1 : Bool) (l1 : List Nat) (rw2 : Bool) (l2 : List Nat) (rw3 : Bool) (l3 : List Nat) (b5_0n : Nat) (b5_1n : Nat) (l6 : List Nat) (l7 : List Nat) : kt_jnI6 N (kEndA Try.f22 4) (.exit 0) (en_jnI6_0 rw0 l0 rw1 l1 rw2 l2 rw3 l3 b5_0n b5_1n l6 l7)
    = (match decide (l6.length = b5_0n ∧ b5_0n < 2147483648 ∧ l7.length = b5_1n ∧ b5_1n < 2147483648) with | true => (match vsB l6 l7 with | true => some (.tup [.g [.sl 4 0 b5_0n, .sl 5 0 b5_1n], .a (.bool true)], [.at rw0 (.fl .f32 l0), .at rw1 (.fl .f32 l1), .at rw2 (.fl .f32 l2), .at rw3 (.fl .f32 l3), .at true (.fl .f32 l6), .at true (.fl .f32 l7)]) | false => some (.tup [.g [.nil, .nil], .a (.bool false)], [.at rw0 (.fl .f32 l0), .at rw1 (.fl .f32 l1), .at rw2 (.fl .f32 l2), .at rw3 (.fl .f32 l3)])) | false => none) := by
  kernel_rfl
end Go.Proofs.Ythjncajdognojaa.Ab
