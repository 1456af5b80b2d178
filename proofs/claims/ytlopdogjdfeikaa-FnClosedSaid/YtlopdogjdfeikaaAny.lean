/- A region whose order is open and that makes several blocks: each order by itself, and all of them brought to one numbering. Only lemmas. -/
import Derived.Test.YtlopdogjdfeikaaAnyE
import Derived.Test.YtlopdogjdfeikaaBase
namespace Go.Proofs.Ytlopdogjdfeikaa.Ab
set_option linter.unusedVariables false
set_option linter.unusedSimpArgs false
open Go

def noMp (h : H) : Bool := h.all fun b => match b with | .at _ (.mp _) => false | _ => true
theorem noMp_not {h : H} (hn : noMp h = true) {i : Nat} {rw : Bool} {L : ML} (e : h[i]? = some (.at rw (.mp L))) : False := by
  have := List.all_eq_true.mp hn _ (List.mem_of_getElem? e)
  cases this
theorem hide_no {h : H} (hn : noMp h = true) : hide h = h := by
  unfold hide
  refine (List.map_congr_left fun b hb => ?_).trans (List.map_id h)
  have := List.all_eq_true.mp hn b hb
  unfold B.hide
  split
  · cases this
  · rfl

section
variable {P : Program}
/-- Every order of what is still to come ends well. -/
def AnyRun (P : Program) (ops : Array Oper) (fin : List V → H → Prop) : Nat → Array Bool → List V → H → Prop
  | 0, listed, t, h => Region.ready .any ops listed = [] ∧ fin t h
  | n + 1, listed, t, h => (Region.ready .any ops listed = [] → fin t h) ∧
    ∀ i ∈ Region.ready .any ops listed, ∃ o v h1, ops[i]? = some o ∧ o.guard = none ∧ OpOk P o t h v h1 ∧ AnyRun P ops fin n (listed.setIfInBounds i true) (putV t o.dst v) h1
theorem any_wp {ops : Array Oper} {Q : Exit → Act → World → Prop} {μ0 : Mu} {h0 : H} {w0 : World} {fin : List V → H → Prop} (hQ : ∀ t h, fin t h → ∀ μ a w, Inv μ0 h0 w0 μ ⟨t, h⟩ a w → Q .normal a w) :
    ∀ (n : Nat) {listed : Array Bool} {t : List V} {h : H}, AnyRun P ops fin n listed t h → ∀ {μ : Mu} {a : Act} {w : World}, Inv μ0 h0 w0 μ ⟨t, h⟩ a w → wpAny P .any ops Q n listed a w
  | 0, listed, t, h, hA, μ, a, w, hi => ⟨hA.1, hQ t h hA.2 μ a w hi⟩
  | n + 1, listed, t, h, hA, μ, a, w, hi => by
    refine ⟨fun h0 => hQ t h (hA.1 h0) μ a w hi, fun i hr => ?_⟩
    obtain ⟨o, v, h1, ho, hg, hop, hA'⟩ := hA.2 i hr
    unfold wpOp
    simp only [ho]
    have hw : Region.wanted o (yielded ops a.tmps) = true := by unfold Region.wanted; rw [hg]
    rw [if_pos hw]
    left
    refine hop μ a w (fun x _ => ev_rep hi.slots x) hi.ev.rel _ Q fun cv w' hgo => ?_
    obtain ⟨μ', he, hcv⟩ := hgo
    exact any_wp hQ n hA' ⟨(hi.slots.pre he.pre).put hcv, by cases o.dst <;> exact hi.defers, hi.ev.trans he⟩
/-- The end of an order: what is kept, in a numbering that leaves the first 'k' blocks. -/
def FinTo (keep : List Nat) (k : Nat) (st' : St) (t : List V) (h : H) : Prop :=
  ∃ ids, ids.Nodup ∧ ids.take k = List.range k ∧ optMap (V.ren ids) (mask keep 0 t) = some st'.t ∧ subH h ids = some st'.h
theorem told {ops : Array Oper} {id : Nat} {Q : Exit → Act → World → Prop} {μ0 : Mu} {h0 : H} {w0 : World} {st st' : St} (keep : List Nat) (hm : P.follows .mixedOrders = true)
    {n : Nat} (hs : ops.size = n) {T0 : List V} {H0 : H} {k : Nat} (et : st.t = T0) (eh : st.h = H0) (ek : H0.length = k) (hn : noMp st.h = true) (hn' : noMp st'.h = true) (hA : AnyRun P ops (FinTo keep k st') n (Array.replicate n false) T0 H0)
    (hQ : ∀ μ a w, InvM μ0 h0 w0 μ st' a w → Q .normal a w) {μ : Mu} {a : Act} {w : World} (hi : InvM μ0 h0 w0 μ st a w) : (Code.region id ops true).wp P Q a w := by
  subst hs
  subst ek
  subst et
  subst eh
  refine wp_region_any hm ?_
  have hj := (hi.drewA 1).inv
  have hk0 : μ0.l.length ≤ st.h.length := by
    have h1 := hi.inv.ev.pre.len
    have h2 := hi.inv.ev.rel.len
    rw [hide_len] at h2
    omega
  have hj : Inv μ0 h0 w0 μ ⟨st.t, st.h⟩ a (w.drewN 1) := by
    have e := hide_no hn
    have h2 : Inv μ0 h0 w0 μ ⟨st.t, hide st.h⟩ a (w.drewN 1) := hj
    rw [e] at h2
    exact h2
  refine any_wp (fun t h hf μ' a' w' hi' => ?_) ops.size hA hj
  obtain ⟨ids, f1, f2, f3, f4⟩ := hf
  have hids : ids = List.range μ0.l.length ++ ids.drop μ0.l.length := by
    conv => lhs; rw [← List.take_append_drop μ0.l.length ids]
    congr 1
    have : ids.take μ0.l.length = (ids.take st.h.length).take μ0.l.length := by rw [List.take_take, Nat.min_eq_left hk0]
    rw [this, f2, List.take_range, Nat.min_eq_left hk0]
  obtain ⟨q1, q2⟩ := hi'.ev.pick hids f1 f4
  refine hQ (pick μ' ids) a' w' ⟨⟨⟨?_, fun i => ?_⟩, hi'.defers, ?_⟩, fun i m L _ hb => (noMp_not hn' hb).elim⟩
  · rw [hi'.slots.1, optMap_len f3, mask_len]
  · refine nth_ren q2 f3 ?_
    rcases mask_nth (keep := keep) (t := t) (n := 0) (i := i) with h3 | h3
    · rw [h3]; exact hi'.slots.2 i
    · rw [h3]; trivial
  · show Ev μ0 h0 w0 _ (hide st'.h) w'
    rw [hide_no hn']
    exact q1
theorem fnA_ok {ty : Ty} (hty : TyOk P ty) {fns : Fns} (hfn : ∀ f, FnT P f (fns f)) (hm : P.follows .mixedOrders = true) {f : FuncId} {fn : Func} {code : Code} (hf : P.funcs[f]? = some fn) (hb : fn.body = some code)
    (hname : (fn.name == "runtime.NumGoroutine") = false) {g : List V → H → T} (an : Ann) (gs : GsA) (hgs : RegOkA P gs code)
    (H : ∀ vs h v h', (g vs h).run = some (v, h') → noMp h = true ∧ ∃ N, runA ty fns an gs N fn vs h = some (v, h')) : FnT P f g := by
  intro vs h v h' hg μ w cvs hr hv
  left
  obtain ⟨hno, N, hrun⟩ := H vs h v h' hg
  refine ⟨?_, ?_⟩
  · have hname' : ¬ (fn.name = "runtime.NumGoroutine") := by simpa using hname
    simp [callFunc, hf, hname', hb]
  · refine calls_of_wp hf hb ?_
    unfold runA at hrun
    rw [hb] at hrun
    dsimp only at hrun
    rw [← hr.len] at hrun
    obtain ⟨hlen, hnth⟩ := repVs_nth (n := fn.ntmps - vs.length) hv
    have hinv : InvM μ h w μ ⟨vs ++ List.replicate (fn.ntmps - vs.length) V.no, h⟩ { tmps := ⟨cvs⟩ ++ Array.replicate (fn.ntmps - (⟨cvs⟩ : Array Value).size) undef, defers := [] } w := by
      refine ⟨⟨⟨by simp [hlen], fun i => ?_⟩, rfl, by show Ev μ h w μ (hide h) w; rw [hide_no hno]; exact Ev.refl hr⟩, fun i m L _ hb => (noMp_not hno hb).elim⟩
      have := hnth i
      rw [Array.getD_eq_getD_getElem?]
      have e : ((⟨cvs⟩ : Array Value) ++ Array.replicate (fn.ntmps - (⟨cvs⟩ : Array Value).size) undef)[i]? = (cvs ++ List.replicate (fn.ntmps - vs.length) undef)[i]? := by
        rw [← Array.getElem?_toList, Array.toList_append, Array.toList_replicate]
        rw [show (⟨cvs⟩ : Array Value).size = vs.length from hlen.symm]
      rw [e]
      exact this
    have hend := finish_ok (P := P) (fn := fn) (μ := μ) (h := h) (w := w) (v := v) (h' := h') hty
    refine execA_ok hty hfn hm code hgs hrun _ (fun x st' hx μ' a' w' hi' => ?_) μ _ w hinv
    cases x with
    | norm => exact hend _ a' w' hx μ' hi'.inv
    | exit id => cases hx
    | ret => exact hend _ a' w' hx μ' hi'.inv
theorem any_next {ops : Array Oper} {fin : List V → H → Prop} {n : Nat} {listed : Array Bool} {t : List V} {h : H} (rs : List Nat) (hr : Region.ready .any ops listed = rs) (hne : rs ≠ [])
    (hs : ∀ i ∈ rs, ∃ o v h1, ops[i]? = some o ∧ o.guard = none ∧ OpOk P o t h v h1 ∧ AnyRun P ops fin n (listed.setIfInBounds i true) (putV t o.dst v) h1) : AnyRun P ops fin (n + 1) listed t h :=
  ⟨fun h0 => absurd (hr ▸ h0) hne, hr ▸ hs⟩
end
def takeAny : Nat → List V → Option (List V)
  | 0, t => some t
  | n + 1, .any :: t => takeAny n t
  | _ + 1, _ => none
theorem takeAny_inv : ∀ {n : Nat} {t t' : List V}, takeAny n t = some t' → t = anys n t'
  | 0, t, t', h => by cases h; rfl
  | n + 1, [], t', h => by cases h
  | n + 1, .any :: t, t', h => by
    have h : takeAny n t = some t' := h
    rw [takeAny_inv h]
    rfl
  | n + 1, .u _ :: _, t', h => by cases h
  | n + 1, .tup _ :: _, t', h => by cases h
def opD3 (o : Oper) : Op × Option Tmp × Option (Nat × Bool) := (o.op, o.dst, o.guard)
theorem any_one {ops : Array Oper} {fin : List V → H → Prop} {n : Nat} {listed l1 : Array Bool} {t t1 : List V} {h h1 : H} {i : Nat} {op : Op} {d : Option Tmp} {v : V} {fns : Fns} (hfn : ∀ f, FnT Try.prog f (fns f))
    (hop : (ops[i]?).map opD3 = some (op, d, none)) (e : stepK ty fns .plain t h op (fun v h => some (v, h)) = some (v, h1)) (hl : listed.setIfInBounds i true = l1) (ht : putV t d v = t1)
    (hA : AnyRun Try.prog ops fin n l1 t1 h1) : ∃ o v h1, ops[i]? = some o ∧ o.guard = none ∧ OpOk Try.prog o t h v h1 ∧ AnyRun Try.prog ops fin n (listed.setIfInBounds i true) (putV t o.dst v) h1 := by
  rw [Option.map_eq_some_iff] at hop
  obtain ⟨o, ho, he⟩ := hop
  unfold opD3 at he
  simp only [Prod.mk.injEq] at he
  obtain ⟨a, b, c⟩ := he
  obtain ⟨v', h', e1, e2, _⟩ := step_ok tyOk hfn a e
  cases e1
  subst hl
  refine ⟨o, v, h1, ho, c, e2, ?_⟩
  rw [b, ht]
  exact hA
def regAt : Code → Nat → Option (Array Oper)
  | .region i ops _, id => if i = id then some ops else none
  | .seq a b, id => match regAt a id with | some x => some x | none => regAt b id
  | .cond _ a b, id => match regAt a id with | some x => some x | none => regAt b id
  | .block _ b, id => regAt b id
  | .loop b, id => regAt b id
  | _, _ => none
def codeOf (fn : Func) : Code := fn.body.getD .skip
def regList : Code → List (Nat × Array Oper × Bool)
  | .region i ops d => [(i, ops, d)]
  | .seq a b => regList a ++ regList b
  | .cond _ a b => regList a ++ regList b
  | .block _ b => regList b
  | .loop b => regList b
  | _ => []
theorem regOk_list {P : Program} {gs : GsA} : ∀ c : Code, (∀ p ∈ regList c, ∀ g, gs p.1 = some g → GSoundA P p.1 p.2.1 p.2.2 g) → RegOkA P gs c := by
  intro c
  induction c with
  | region i ops d =>
    intro h
    show match gs i with | some g => GSoundA P i ops d g | none => True
    cases hg : gs i with
    | none => trivial
    | some g => exact h (i, ops, d) (by simp [regList]) g hg
  | seq a b iha ihb => intro h; exact ⟨iha fun p hp => h p (by simp [regList, hp]), ihb fun p hp => h p (by simp [regList, hp])⟩
  | cond x a b iha ihb => intro h; exact ⟨iha fun p hp => h p (by simp [regList, hp]), ihb fun p hp => h p (by simp [regList, hp])⟩
  | block i b ih => intro h; exact ih fun p hp => h p (by simpa [regList] using hp)
  | loop b ih => intro h; exact ih fun p hp => h p (by simpa [regList] using hp)
  | _ => intro _; trivial
abbrev kEndA (fn : Func) (k : Nat) : X → St → Option (V × H) := fun x st => match x with | .exit _ => none | _ => finish ty fn k ⟨st.t, hide st.h⟩
abbrev kSeqA {R : Type} (fns : Fns) (an : Ann) (gs : GsA) (N k : Nat) (c : Code) (K : X → St → Option R) : X → St → Option R := fun x st => match x with | .norm => execA ty fns an gs N k c st K | x => K x st
end Go.Proofs.Ytlopdogjdfeikaa.Ab
