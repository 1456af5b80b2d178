/- Functions that the model answers itself: roots, bits. Only lemmas. -/
import Derived.Test.YtlopdogjdfeikaaBase
import Derived.Laws.Externs
namespace Go.Proofs.Ytlopdogjdfeikaa.Ab
set_option linter.unusedVariables false
set_option linter.unusedSimpArgs false
open Go

theorem ext_ok {P : Program} {f : FuncId} {fn : Func} {e : Array Value → Sem Value} {g : GT} (hf : P.funcs[f]? = some fn) (hname : (fn.name == "runtime.NumGoroutine") = false) (hb : fn.body.isNone = true) (hn : Extern.findNext fn = none) (he : Extern.find fn = some e)
    (H : ∀ vs hp v h', (g vs hp).run = some (v, h') → hp = [] ∧ h' = [] ∧ ∀ (μ : Mu) cvs w, RepVs μ vs cvs → ∃ cv n, (e ⟨cvs⟩).run P w = .ok cv (w.drewN n) ∧ RepV μ v cv) : FnT P f g := by
  intro vs hp v h' ee μ w cvs hr hv
  obtain ⟨rfl, rfl, hh⟩ := H vs hp v h' ee
  obtain ⟨cv, n, h1, h2⟩ := hh μ cvs w hv
  exact .inr ⟨cv, w.drewN n, by rw [run_callFunc_extern hf hname hb hn he, h1]; rfl, μ, Ev.drewN hr n, h2⟩
theorem rep_one {μ : Mu} {v : V} {cvs : List Value} (h : RepVs μ [v] cvs) : ∃ c, cvs = [c] ∧ RepV μ v c := by
  cases cvs with
  | nil => exact h.elim
  | cons c cs =>
    cases cs with
    | nil => exact ⟨c, rfl, h.1⟩
    | cons _ _ => exact h.2.elim

def fsqrt (x : Nat) : Nat := (FloatKind.f64.format.sqrt x).getD (qnan .f64)
def gSqrt : GT := fun vs h => match vs, h with | [.fl .f64 x], [] => .ret (.fl .f64 (fsqrt x)) [] | _, _ => .no
theorem fsqrt_canon (b : Nat) : fsqrt (canon .f64 b) = canon .f64 (fsqrt b) := by
  cases hb : isN .f64 b with
  | false =>
    rw [canon_of hb]
    unfold fsqrt
    cases e : FloatKind.f64.format.sqrt b with
    | none => exact (canon_qnan .f64).symm
    | some r =>
      unfold Ieee.Format.sqrt at e
      simp only [Option.map_eq_some_iff] at e
      obtain ⟨d, h1, rfl⟩ := e
      exact (canon_of (isN_write .f64 (root_some h1).2)).symm
  | true =>
    have key : ∀ c, isN .f64 c = true → fsqrt c = qnan .f64 := by
      intro c hc
      unfold fsqrt
      cases e : FloatKind.f64.format.sqrt c with
      | none => rfl
      | some r =>
        unfold Ieee.Format.sqrt at e
        simp only [Option.map_eq_some_iff] at e
        obtain ⟨d, h1, _⟩ := e
        have h2 : (FloatKind.f64.format.read c).isNaN = true := hc
        rw [(root_some h1).1] at h2
        cases h2
    rw [key _ (by rw [isN_canon]; exact hb), key _ hb, canon_qnan]
theorem sqrt_ok {P : Program} {f : FuncId} {fn : Func} (hf : P.funcs[f]? = some fn) (hname : (fn.name == "runtime.NumGoroutine") = false) (hb : fn.body.isNone = true) (hn : Extern.findNext fn = none) (he : Extern.find fn = some Extern.MathSqrt.sqrt) : FnT P f gSqrt := by
  refine ext_ok hf hname hb hn he fun vs hp v h' e => ?_
  unfold gSqrt at e
  split at e
  case h_2 => exact (T.no_inv e).elim
  obtain ⟨rfl, rfl⟩ := T.ret_inv e
  refine ⟨rfl, rfl, fun μ cvs w hv => ?_⟩
  obtain ⟨c, rfl, b, rfl, rfl⟩ := rep_one hv
  cases e : FloatKind.f64.format.sqrt b with
  | some r =>
    refine ⟨.float .f64 r, 0, by show ((match FloatKind.f64.format.sqrt b with | some r => pure (.float .f64 r) | none => do pure (.float .f64 (← choose (.nanBits .f64 b b)))) : Sem Value).run P w = _; rw [e]; rfl, r, rfl, ?_⟩
    rw [fsqrt_canon]
    unfold fsqrt
    rw [e]
    rfl
  | none =>
    refine ⟨.float .f64 ((Question.nanBits .f64 b b).cut (w.tape w.drawn (.nanBits .f64 b b))), 1, by show ((match FloatKind.f64.format.sqrt b with | some r => pure (.float .f64 r) | none => do pure (.float .f64 (← choose (.nanBits .f64 b b)))) : Sem Value).run P w = _; rw [e]; rfl, _, rfl, ?_⟩
    rw [fsqrt_canon]
    have : fsqrt b = qnan .f64 := by unfold fsqrt; rw [e]; rfl
    rw [this, canon_qnan]
    exact canon_nan (isN_cut .f64 (.nanBits .f64 b b) (w.tape w.drawn (.nanBits .f64 b b)) (.inl ⟨b, b, rfl⟩))

def gBits (k : FloatKind) (i : IntKind) : GT := fun vs h => match vs, h with | [.fl k' x], [] => if k' = k then .ite (!isN k x) (.ret (.int i x) []) .no else .no | _, _ => .no
def gFrom (k : FloatKind) (i : IntKind) : GT := fun vs h => match vs, h with | [.int i' n], [] => if i' = i then .ret (.fl k (canon k n.toNat)) [] else .no | _, _ => .no
theorem bits64_ok {P : Program} {f : FuncId} {fn : Func} (hf : P.funcs[f]? = some fn) (hname : (fn.name == "runtime.NumGoroutine") = false) (hb : fn.body.isNone = true) (hn : Extern.findNext fn = none) (he : Extern.find fn = some Extern.MathFloatBits.float64bits) : FnT P f (gBits .f64 .u64) := by
  refine ext_ok hf hname hb hn he fun vs hp v h' e => ?_
  unfold gBits at e
  split at e
  case h_2 => exact (T.no_inv e).elim
  split at e
  case isFalse => exact (T.no_inv e).elim
  rename_i hk
  subst hk
  obtain ⟨hx, e⟩ := T.pre_inv e
  obtain ⟨rfl, rfl⟩ := T.ret_inv e
  refine ⟨rfl, rfl, fun μ cvs w hv => ?_⟩
  obtain ⟨c, rfl, b, rfl, rfl⟩ := rep_one hv
  have hb : isN .f64 b = false := by rw [isN_canon] at hx; simpa using hx
  exact ⟨.int .u64 b, 0, rfl, by rw [canon_of hb]; rfl⟩
theorem bits32_ok {P : Program} {f : FuncId} {fn : Func} (hf : P.funcs[f]? = some fn) (hname : (fn.name == "runtime.NumGoroutine") = false) (hb : fn.body.isNone = true) (hn : Extern.findNext fn = none) (he : Extern.find fn = some Extern.MathFloatBits.float32bits) : FnT P f (gBits .f32 .u32) := by
  refine ext_ok hf hname hb hn he fun vs hp v h' e => ?_
  unfold gBits at e
  split at e
  case h_2 => exact (T.no_inv e).elim
  split at e
  case isFalse => exact (T.no_inv e).elim
  rename_i hk
  subst hk
  obtain ⟨hx, e⟩ := T.pre_inv e
  obtain ⟨rfl, rfl⟩ := T.ret_inv e
  refine ⟨rfl, rfl, fun μ cvs w hv => ?_⟩
  obtain ⟨c, rfl, b, rfl, rfl⟩ := rep_one hv
  have hb : isN .f32 b = false := by rw [isN_canon] at hx; simpa using hx
  exact ⟨.int .u32 b, 0, rfl, by rw [canon_of hb]; rfl⟩
theorem from64_ok {P : Program} {f : FuncId} {fn : Func} (hf : P.funcs[f]? = some fn) (hname : (fn.name == "runtime.NumGoroutine") = false) (hb : fn.body.isNone = true) (hn : Extern.findNext fn = none) (he : Extern.find fn = some Extern.MathFloatBits.float64frombits) : FnT P f (gFrom .f64 .u64) := by
  refine ext_ok hf hname hb hn he fun vs hp v h' e => ?_
  unfold gFrom at e
  split at e
  case h_2 => exact (T.no_inv e).elim
  split at e
  case isFalse => exact (T.no_inv e).elim
  rename_i hk
  subst hk
  obtain ⟨rfl, rfl⟩ := T.ret_inv e
  refine ⟨rfl, rfl, fun μ cvs w hv => ?_⟩
  obtain ⟨c, rfl, hc⟩ := rep_one hv
  cases hc
  exact ⟨_, 0, rfl, _, rfl, rfl⟩
theorem from32_ok {P : Program} {f : FuncId} {fn : Func} (hf : P.funcs[f]? = some fn) (hname : (fn.name == "runtime.NumGoroutine") = false) (hb : fn.body.isNone = true) (hn : Extern.findNext fn = none) (he : Extern.find fn = some Extern.MathFloatBits.float32frombits) : FnT P f (gFrom .f32 .u32) := by
  refine ext_ok hf hname hb hn he fun vs hp v h' e => ?_
  unfold gFrom at e
  split at e
  case h_2 => exact (T.no_inv e).elim
  split at e
  case isFalse => exact (T.no_inv e).elim
  rename_i hk
  subst hk
  obtain ⟨rfl, rfl⟩ := T.ret_inv e
  refine ⟨rfl, rfl, fun μ cvs w hv => ?_⟩
  obtain ⟨c, rfl, hc⟩ := rep_one hv
  cases hc
  exact ⟨_, 0, rfl, _, rfl, rfl⟩
end Go.Proofs.Ytlopdogjdfeikaa.Ab
