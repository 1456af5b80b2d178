/- A number gets its digits: what is left of 'put' when its walk is known. Only lemmas. -/
import Derived.Test.YtbhfjdlhhjeknaaDivF
namespace Go.Proofs.Ytbhfjdlhhjeknaa.Ab
set_option linter.unusedVariables false
set_option linter.unusedSimpArgs false
open Go

theorem slz_len {z : Nat → Option (Array Value)} {D : List Int} {cv : Value} (h : SlZ z D cv) : D.length ≤ maxLen := by
  rcases h with ⟨rfl, _⟩ | ⟨_, _, c, _, h1, h2, _⟩
  · exact Nat.zero_le _
  · omega
theorem rep_three {μ : Mu} {t u v : V} {cvs : List Value} (h : RepVs μ [t, u, v] cvs) : ∃ b c d, cvs = [b, c, d] ∧ RepV μ t b ∧ RepV μ u c ∧ RepV μ v d := by
  cases cvs with
  | nil => exact h.elim
  | cons b cs =>
    obtain ⟨c, d, rfl, h1, h2⟩ := rep_two h.2
    exact ⟨b, c, d, rfl, h.1, h1, h2⟩
theorem put_core {f : FuncId} {fn : Func} {code : Code} {fns : Fns} (hfn : ∀ f, FnT Try.prog f (fns f)) (hf : Try.prog.funcs[f]? = some fn) (hb : fn.body = some code) (hn : (fn.name == "runtime.NumGoroutine") = false) (an : Ann)
    {rest : List A} {gs : List B} (hrest : ∀ x ∈ rest, x.ids = []) (hgs : ∀ b ∈ gs, b = .gone) {s s0 : Bool} {v0 : Nat}
    (H : ∀ D, okD D → D.length ≤ maxLen → ∃ N n, n ≤ D.length ∧ nv (D.take n) = nv D ∧ (D.take n).getLast? ≠ some 0 ∧
      run ty fns an N fn [.ptr 0 0, .bool s, .ro (gs.length + 1) D.length] ((.at true (.as 1 (.bool s0 :: .big v0 :: rest)) :: gs) ++ [.at false (.int .u32 D)]) =
        some (.ptr 0 0, (.at true (.as 1 (.bool (s && decide (0 < nv D)) :: .ro (gs.length + 1) n :: rest)) :: gs) ++ [.at false (.int .u32 D)]))
    {μ : Mu} {w : World} {c1 c2 c3 : Value} {D : List Int} (hr : Rel μ (.at true (.as 1 (.bool s0 :: .big v0 :: rest)) :: gs) w) (h1 : RepV μ (.ptr 0 0) c1) (h2 : RepV μ (.bool s) c2) (hD : okD D) (h3 : SlZ μ.z D c3) :
    CallRes Try.prog f [c1, c2, c3] w fun cv w' => Goes μ (.at true (.as 1 (.bool s0 :: .big v0 :: rest)) :: gs) w (.ptr 0 0) (.at true (.as 1 (.bool (s && decide (0 < nv D)) :: .big (nv D) :: rest)) :: gs) cv w' := by
  obtain ⟨m, f1, r2, a2⟩ := hr.thaw h3
  obtain ⟨N, n, hn1, hn2, hn3, hrun⟩ := H D hD (slz_len h3)
  have hlen : μ.l.length = gs.length + 1 := hr.len
  have hargs : RepVs (μ.app [m]) [.ptr 0 0, .bool s, .ro (gs.length + 1) D.length] [c1, c2, c3] := ⟨h1.pre (.app μ _), h2, a2, trivial⟩
  refine (FnT.runs hfn hf hb hn an N _ _ (.ptr 0 0) ((.at true (.as 1 (.bool (s && decide (0 < nv D)) :: .ro (gs.length + 1) n :: rest)) :: gs) ++ [.at false (.int .u32 D)]) (by rw [T.run_of]; exact hrun) _ w _ r2 hargs).mono fun cv w' ⟨μ', he, hcv⟩ => ?_
  have hm : μ'.l[gs.length + 1]? = some m := by
    obtain ⟨_, ν, hν⟩ := he.pre
    have e : (μ.app [m]).l = μ.l ++ [m] := rfl
    rw [hν, e, List.append_assoc, List.getElem?_append_right (by omega), hlen, Nat.sub_self]
    rfl
  have hw := he.weak (k := 0) (c := .as 1 (.bool (s && decide (0 < nv D)) :: .ro (gs.length + 1) n :: rest)) (c' := .as 1 (.bool (s && decide (0 < nv D)) :: .big (nv D) :: rest)) (rw := true) rfl rfl (fun m0 _ p x hx => by
    rw [C.get?_as] at hx
    match p, hx with
    | 0, hx => exact ⟨x, by rw [C.get?_as]; exact hx, fun cv h => h⟩
    | 1, hx =>
      refine ⟨_, by rw [C.get?_as]; rfl, fun cv h => ?_⟩
      have e : x = .big (nv D) := by simpa using hx.symm
      subst e
      have hs := slz_ro hm (f1.mono he.pre.1) hn1 h
      exact ⟨D.take n, hD.take n, hn2, hn3, hs⟩
    | p + 2, hx => exact ⟨x, by rw [C.get?_as]; exact hx, fun cv h => h⟩)
  have hc := Ev.cut (ros := [.at false (.int .u32 D)]) (ms := [m]) (μ := μ) hr.len rfl (fun b hb c => by simp at hb; subst hb; simp) hw (fun i rw c hi hb p x hx => by
    rw [List.getElem?_set] at hb
    split at hb
    · simp at hb
      obtain ⟨_, rfl, rfl⟩ := hb
      rw [C.get?_as] at hx
      match p, hx with
      | 0, hx => simp at hx; subst hx; rfl
      | 1, hx => simp at hx; subst hx; rfl
      | p + 2, hx => exact hrest x (List.mem_of_getElem? (by simpa using hx))
    · rename_i hne
      obtain ⟨i, rfl⟩ : ∃ p, i = p + 1 := ⟨i - 1, by omega⟩
      have hi2 : i < gs.length := by simpa using hi
      rw [List.getElem?_append_left (by simpa using hi)] at hb
      simp only [List.getElem?_cons_succ] at hb
      have := hgs _ (List.mem_of_getElem? hb)
      cases this)
  refine ⟨⟨μ'.z, μ.l⟩, ?_, ?_⟩
  · have e : ((((B.at true (.as 1 (.bool (s && decide (0 < nv D)) :: .ro (gs.length + 1) n :: rest)) :: gs) ++ [B.at false (.int .u32 D)]).set 0 (B.at true (.as 1 (.bool (s && decide (0 < nv D)) :: .big (nv D) :: rest)))).take (B.at true (.as 1 (.bool s0 :: .big v0 :: rest)) :: gs).length) = B.at true (.as 1 (.bool (s && decide (0 < nv D)) :: .big (nv D) :: rest)) :: gs := by
      simp
    rw [e] at hc
    exact hc
  · obtain ⟨m0, h4, rfl⟩ := hcv
    refine ⟨m0, ?_, rfl⟩
    obtain ⟨_, ν, hν⟩ := he.pre
    have e : (μ.app [m]).l = μ.l ++ [m] := rfl
    rw [hν, e, List.append_assoc, List.getElem?_append_left (by omega)] at h4
    exact h4
theorem trim_pos {D : List Int} {n : Nat} (hD : okD D) (hn : n ≤ D.length) (h : nv (D.take n) = nv D) (hl : (D.take n).getLast? ≠ some 0) : decide (((n : Nat) : Int) > 0) = decide (0 < nv D) := by
  rcases Nat.eq_zero_or_pos n with h0 | h0
  · subst h0
    rw [← h]
    rfl
  · have h1 := trim_ge (hD.take n) hl (by rw [List.length_take]; omega)
    have h2 := bpow_pos ((D.take n).length - 1)
    rw [decide_eq_true (by omega), decide_eq_true (by omega)]
theorem take_last {D : List Int} {n : Nat} {x : Int} (hx : D[n]? = some x) : D.take (n + 1) = D.take n ++ [x] := by
  rw [List.take_add_one, hx]
  rfl
end Go.Proofs.Ytbhfjdlhhjeknaa.Ab
