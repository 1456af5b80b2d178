/- Digits in a number's cell, opened for one call. Only lemmas. -/
import Derived.Test.YtbhfjdlhhjeknaaPut
namespace Go.Proofs.Ytbhfjdlhhjeknaa.Ab
set_option linter.unusedVariables false
set_option linter.unusedSimpArgs false
open Go

/-- A block's cells told in other words. -/
theorem Rel.recell {μ : Mu} {h : H} {w : World} (r : Rel μ h w) {k : Nat} {rw : Bool} {c c' : C} (hb : h[k]? = some (.at rw c)) (hes : c'.esz = c.esz) (hl : c'.live rw → c.live rw)
    (hc : ∀ m, μ.l[k]? = some m → ∀ p x, c'.get? p = some x → ∃ cv, w.cell? ⟨m.blk, m.off + p, Option.none⟩ = some cv ∧ RepA μ x cv) : Rel μ (h.set k (.at rw c')) w := by
  have hk : k < h.length := getElem?_lt hb
  have get : ∀ (j : Nat) (rw' : Bool) (d : C), (h.set k (.at rw c'))[j]? = some (.at rw' d) → (j = k ∧ rw' = rw ∧ d = c') ∨ (h[j]? = some (.at rw' d)) := by
    intro j rw' d hj
    by_cases e : k = j
    · subst e
      rw [List.getElem?_set_self hk] at hj
      cases hj
      exact .inl ⟨rfl, rfl, rfl⟩
    · rw [List.getElem?_set_ne e] at hj
      exact .inr hj
  refine ⟨by simpa using r.len, ?_, ?_, ?_, ?_, ?_⟩
  · intro j m rw' d hm hd p x hx
    rcases get j rw' d hd with ⟨rfl, rfl, rfl⟩ | hd
    · exact hc m hm p x hx
    · exact r.cell j m rw' d hm hd p x hx
  · intro j m d hm hd
    rcases get j _ d hd with ⟨rfl, h1, rfl⟩ | hd
    · subst h1
      rw [hes]
      exact r.own j m c hm hb
    · exact r.own j m d hm hd
  · intro j m rw' d hm hd hl'
    rcases get j rw' d hd with ⟨rfl, rfl, rfl⟩ | hd
    · exact r.lt j m rw' c hm hb (hl hl')
    · exact r.lt j m rw' d hm hd hl'
  · intro i j m n d rw' d' hij hm hn hd hd' hl'
    rcases get j rw' d' hd' with ⟨e1, e2, e3⟩ | hd2
    · subst e1; subst e2; subst e3
      rcases get i _ d hd with ⟨h1, _, _⟩ | hd1
      · exact absurd h1 hij
      · exact r.sep i j m n d rw' c hij hm hn hd1 hb (hl hl')
    · rcases get i _ d hd with ⟨e1, e2, e3⟩ | hd1
      · subst e1; subst e2; subst e3
        exact r.sep i j m n c rw' d' hij hm hn hb hd2 hl'
      · exact r.sep i j m n d rw' d' hij hm hn hd1 hd2 hl'
  · intro b cur hk'
    refine ⟨(r.fz b cur hk').1, fun j m d hm hd => ?_⟩
    rcases get j _ d hd with ⟨rfl, h1, rfl⟩ | hd
    · subst h1
      exact (r.fz b cur hk').2 j m c hm hb
    · exact (r.fz b cur hk').2 j m d hm hd
/-- The beginning told in other words. -/
theorem Ev.start {μ μ' : Mu} {h h2 h' : H} {w w' : World} (e : Ev μ h2 w μ' h' w') (hs : ∀ (i : Nat) (rw : Bool) (d : C), h2[i]? = some (.at rw d) → ∃ d0, h[i]? = some (.at rw d0) ∧ (d.live rw → d0.live rw)) : Ev μ h w μ' h' w' := by
  have hwr : ∀ k, Wr μ h2 k → Wr μ h k := by
    rintro k ⟨i, m, c, hm, hb, hk⟩
    obtain ⟨d0, hd, _⟩ := hs i true c hb
    exact ⟨i, m, d0, hm, hd, hk⟩
  refine ⟨e.rel, e.pre, e.fr.mono hwr, ?_, ?_, ?_⟩
  · intro j rw c hj hb
    obtain ⟨d, hd, hl⟩ := e.old j rw c hj hb
    obtain ⟨d0, hd0, hl0⟩ := hs j rw d hd
    exact ⟨d0, hd0, fun h => hl0 (hl h)⟩
  · intro i m rw c hi hm hb
    obtain ⟨h1, h2⟩ := e.new i m rw c hi hm hb
    exact ⟨h1, h2.imp (hwr _) id⟩
  · intro k cur hk
    exact (e.zn k cur hk).imp id (Or.imp (hwr k) id)
theorem rep_1 {μ : Mu} {v : V} {cvs : List Value} (h : RepVs μ [v] cvs) : ∃ c, cvs = [c] ∧ RepV μ v c := by
  cases cvs with
  | nil => exact h.elim
  | cons c cs =>
    cases cs with
    | nil => exact ⟨c, rfl, h.1⟩
    | cons _ _ => exact h.2.elim
def gCellS (F : Bool → Nat → V) (pre : Bool → Nat → Bool) : GT := fun vs h => match vs, h with | [.ptr 0 0], [.at r (.as 1 [.bool s, .big v])] => .ite (pre s v) (.ret (F s v) [.at r (.as 1 [.bool s, .big v])]) .no | _, _ => .no
theorem FnT.cellS {f : FuncId} {fn : Func} {code : Code} {fns : Fns} (hfn : ∀ f, FnT Try.prog f (fns f)) (hf : Try.prog.funcs[f]? = some fn) (hb : fn.body = some code) (hn : (fn.name == "runtime.NumGoroutine") = false) (an : Ann)
    (F : Bool → Nat → V) (hF : ∀ s v, (F s v).flat = true) (pre : Bool → Nat → Bool)
    (H : ∀ (r s : Bool) D, okD D → D.getLast? ≠ some 0 → D.length ≤ maxLen → pre s (nv D) = true → ∃ N, run ty fns an N fn [.ptr 0 0] [.at r (.as 1 [.bool s, .ro 1 D.length]), .at false (.int .u32 D)] =
      some (F s (nv D), [.at r (.as 1 [.bool s, .ro 1 D.length]), .at false (.int .u32 D)])) :
    FnT Try.prog f (gCellS F pre) := by
  intro vs hp v h' e μ w cvs hr hv
  unfold gCellS at e
  split at e
  case h_2 => exact (T.no_inv e).elim
  rename_i r s a
  obtain ⟨hpre, e⟩ := T.pre_inv e
  obtain ⟨rfl, rfl⟩ := T.ret_inv e
  obtain ⟨c1, rfl, h1⟩ := rep_1 hv
  have hl : μ.l.length = 1 := hr.len
  have hm0 : μ.l[0]? = some μ.l[0] := List.getElem?_eq_getElem (by omega)
  obtain ⟨cv1, hc1, D, hD, rfl, hDl, hDs⟩ := hr.cell 0 _ r (.as 1 [.bool s, .big a]) hm0 rfl 1 (.big a) rfl
  obtain ⟨cv0, hc0, hr0⟩ := hr.cell 0 _ r (.as 1 [.bool s, .big (nv D)]) hm0 rfl 0 (.bool s) rfl
  obtain ⟨m, f1, r2, a2⟩ := hr.thaw hDs
  have hmm : (μ.app [m]).l[0]? = some μ.l[0] := by
    show (μ.l ++ [m])[0]? = _
    rw [List.getElem?_append_left (by omega)]
    exact hm0
  have r3 := r2.recell (k := 0) (rw := r) (c := .as 1 [.bool s, .big (nv D)]) (c' := .as 1 [.bool s, .ro 1 D.length]) rfl rfl (fun h => h.imp id fun _ => ⟨0, _, rfl⟩) (fun m1 hm1 p x hx => by
    rw [hmm] at hm1
    cases hm1
    rw [C.get?_as] at hx
    match p, hx with
    | 0, hx => simp at hx; subst hx; exact ⟨cv0, hc0, hr0⟩
    | 1, hx => simp at hx; subst hx; exact ⟨cv1, hc1, a2⟩
    | p + 2, hx => simp at hx)
  obtain ⟨N, hrun⟩ := H r s D hD hDl (slz_len hDs) hpre
  have hargs : RepVs (μ.app [m]) [.ptr 0 0] [c1] := ⟨h1.pre (.app μ _), trivial⟩
  refine (FnT.runs hfn hf hb hn an N [.ptr 0 0] [.at r (.as 1 [.bool s, .ro 1 D.length]), .at false (.int .u32 D)] (F s (nv D)) [.at r (.as 1 [.bool s, .ro 1 D.length]), .at false (.int .u32 D)] (by rw [T.run_of]; exact hrun) _ w _ r3 hargs).mono fun cv w' ⟨μ', he, hcv⟩ => ?_
  have hm : μ'.l[1]? = some m := by
    obtain ⟨_, ν, hν⟩ := he.pre
    have e : (μ.app [m]).l = μ.l ++ [m] := rfl
    rw [hν, e, List.append_assoc, List.getElem?_append_right (by omega), hl]
    rfl
  have hw := he.weak (k := 0) (rw := r) (c := .as 1 [.bool s, .ro 1 D.length]) (c' := .as 1 [.bool s, .big (nv D)]) rfl rfl (fun m0 _ p x hx => by
    rw [C.get?_as] at hx
    match p, hx with
    | 0, hx => exact ⟨x, by rw [C.get?_as]; exact hx, fun cv h => h⟩
    | 1, hx =>
      refine ⟨_, by rw [C.get?_as]; rfl, fun cv h => ?_⟩
      have e : x = .big (nv D) := by simpa using hx.symm
      subst e
      have hs := slz_ro hm (f1.mono he.pre.1) (Nat.le_refl _) h
      rw [List.take_length] at hs
      exact ⟨D, hD, rfl, hDl, hs⟩
    | p + 2, hx => simp at hx)
  have hst := Ev.start (h := [.at r (.as 1 [.bool s, .big (nv D)])] ++ [.at false (.int .u32 D)]) hw (fun i rw d hi => by
    match i, hi with
    | 0, hi => simp at hi; obtain ⟨rfl, rfl⟩ := hi; exact ⟨_, rfl, fun h => h.imp id fun _ => ⟨0, _, rfl⟩⟩
    | 1, hi => exact ⟨d, hi, id⟩
    | i + 2, hi => simp at hi)
  have hc := Ev.cut (ros := [.at false (.int .u32 D)]) (ms := [m]) (μ := μ) hr.len rfl (fun b hb c => by simp at hb; subst hb; simp) hst (fun i rw c hi hb p x hx => by
    match i, hb with
    | 0, hb =>
      simp at hb
      obtain ⟨_, rfl⟩ := hb
      rw [C.get?_as] at hx
      match p, hx with
      | 0, hx => simp at hx; subst hx; rfl
      | 1, hx => simp at hx; subst hx; rfl
      | p + 2, hx => simp at hx
    | i + 1, _ => simp at hi)
  exact ⟨_, hc, hcv.of_flat (hF _ _)⟩
end Go.Proofs.Ytbhfjdlhhjeknaa.Ab
