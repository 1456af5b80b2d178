/- What the proof names: lemmas and words, merged by a program from its parts. No condition. -/
import Derived.Test.YtpeplbbphpamhaaZ7
import Derived.Below
import Derived.ChangeSame
import Derived.ProofKit
import Derived.OpenShut
namespace Go.Proofs.Ytpeplbbphpamhaa.Ab
set_option linter.unusedVariables false
set_option linter.unusedSimpArgs false
open Go Go.RowKit Go.WideShapes Go.ChangeShapes
abbrev G := List V → H → Option (V × H)
def FnOk (P : Program) (f : FuncId) (g : G) : Prop := FnT P f fun vs h => T.of (g vs h)
abbrev GT := List V → H → T
def tab : List (FuncId × G) → Fns
  | [] => fun _ _ _ => .no
  | (k, g) :: l => fun f => if f = k then fun vs h => T.of (g vs h) else tab l f
abbrev gT (g : G) : GT := fun vs h => T.of (g vs h)
def tabT : List (FuncId × GT) → Fns
  | [] => fun _ _ _ => .no
  | (k, g) :: l => fun f => if f = k then g else tabT l f
theorem tabT_nil {P : Program} : ∀ f, FnT P f (tabT [] f) := fun _ _ _ _ _ h => by cases h
theorem tabT_cons {P : Program} {k : FuncId} {g : GT} {l : List (FuncId × GT)} (h : FnT P k g) (t : ∀ f, FnT P f (tabT l f)) : ∀ f, FnT P f (tabT ((k, g) :: l) f) := by
  intro f
  simp only [tabT]
  split
  · rename_i e; subst e; exact h
  · exact t f
def ann0 : Ann := ⟨fun _ => none, fun _ _ => .quiet⟩
theorem fnT {f : FuncId} {fn : Func} {code : Code} {fns : Fns} (hfn : ∀ f, FnT Try.prog f (fns f)) (hf : Try.prog.funcs[f]? = some fn) (hb : fn.body = some code) (hn : (fn.name == "runtime.NumGoroutine") = false) {g : GT} (an : Ann)
    (H : ∀ vs h v h', (g vs h).run = some (v, h') → ∃ N, run ty fns an N fn vs h = some (v, h')) : FnT Try.prog f g :=
  fn_ok tyOk hfn mixed hf hb hn an H
theorem FnT.as {P : Program} {f : FuncId} {g g' : GT} (h : FnT P f g) (e : ∀ vs h, (g' vs h).run = (g vs h).run) : FnT P f g' := fun vs hp v h' e' => h vs hp v h' (by rw [← e]; exact e')
theorem law_calls {f : FuncId} {fn : Func} {code : Code} {g : G} (hok : FnOk Try.prog f g) (hf : Try.prog.funcs[f]? = some fn) (hb : fn.body = some code) (hn : (fn.name == "runtime.NumGoroutine") = false)
    {vs : List V} {cvs : List Value} {h h' : H} {μ : Mu} {w : World} (hg : g vs h = some (.bool true, h')) (hr : Rel μ h w) (hv : RepVs μ vs cvs) (hro : ∀ k, ¬ Wr μ h k) :
    Calls Try.prog f ⟨cvs⟩ w fun e w' => e = .returned (.bool true) ∧ Below w.heap.size w w' := by
  have hn' : ¬ (fn.name = "runtime.NumGoroutine") := by simpa using hn
  have hrun : (callFunc f ⟨cvs⟩).run Try.prog w = .ok (.enter f ⟨cvs⟩) w := by simp [callFunc, hf, hn', hb]
  rcases hok vs h _ h' (by rw [T.run_of]; exact hg) μ w cvs hr hv with ⟨_, h2⟩ | ⟨cv, w', h1, _⟩
  · refine h2.mono fun e w' ⟨cv, h3, μ', he, hcv⟩ => ?_
    cases repBool hcv
    exact ⟨h3, he.fr.os, he.fr.tape, he.fr.output, he.fr.size, fun k hk => he.fr.block k hk (hro k)⟩
  · rw [hrun] at h1
    cases h1
theorem Rel.none (w : World) : Rel ⟨noZ, []⟩ [] w := ⟨rfl, fun i m rw c h => by simp at h, fun i m c h => by simp at h, fun i m rw c h => by simp at h, fun i j m n c rw d _ h => by simp at h, fun k cur h => by cases h⟩
section
variable {H : Type} {enc : TypeId × Value → H} {P : Program}
theorem post_of_below {f : Func} {s : ChangeSpec} {apart fresh handsOn again : Bool} {W W' : World} {args : Array Value} {v : Value} {ds gs : List (DataW H)} {before pa pv : List MemPlace}
    (hW : DataW.Whole enc P f.params.toList s.vars apart W args.toList ds gs before)
    (hres : ∀ (b : Nat) (sp : Nat → Bool) (hd : Bool), DataW.TrodAll enc P W' b sp hd f.resultTypes.toList (v.resultList f.resultTypes.size) (s.fn H (ds ++ gs)).results [])
    (hargs : ∀ sp : Nat → Bool, (∀ p ∈ before, sp p.block = true) → DataW.TrodAll enc P W' 0 sp true f.params.toList args.toList (s.fn H (ds ++ gs)).args pa)
    (hvars : ∀ sp : Nat → Bool, (∀ p ∈ before, sp p.block = true) → DataW.TrodVars enc P W' sp s.vars (s.fn H (ds ++ gs)).vars pv)
    (hps : before = pa ++ pv) (hb : Below W.heap.size W W')
    (hok : ∀ (j : Nat) (t : TypeId) (r : Value), f.resultTypes[j]? = some t → (v.resultList f.resultTypes.size)[j]? = some r → Value.okWide P W' .any 0 t r) :
    s.post enc P f apart fresh handsOn again W args v W' := by
  have hlt : ∀ p ∈ before, p.block < W.heap.size := fun p hp => hW.lt p hp
  have hold : ∀ p ∈ before, (fun b => decide (b < W.heap.size)) p.block = true := fun p hp => by simpa using hlt p hp
  refine ⟨ds, gs, before, [], pa, pv, hW, hres _ _ _, hargs _ hold, hvars _ hold, World.keptBut_mono (fun p hp => ⟨hp, ?_⟩) (hb.frame (· ∈ before)), fun _ => ?_⟩
  · rw [hps, List.mem_append] at hp
    exact Or.inr hp
  · obtain ⟨_, _, _, _, _, hz, hn⟩ := hW
    refine ⟨hok, _, _, ([] ++ pa) ++ pv, ⟨[] ++ pa, pv, trodAll_append (hargs _ (fun _ _ => rfl)) (hres _ _ _), hvars _ (fun _ _ => rfl), rfl, ?_, ?_⟩, ?_⟩
    · intro b off hp
      have hin : MemPlace.cell b off ∈ before := by rw [hps]; simpa using hp
      rw [hb.frozen (hlt _ hin)]
      exact hz b off hin
    · intro ha
      have := hn ha
      rw [hps] at this
      simpa using this
    · intro p hp _
      rw [hps]
      simpa using hp
end
end Go.Proofs.Ytpeplbbphpamhaa.Ab
