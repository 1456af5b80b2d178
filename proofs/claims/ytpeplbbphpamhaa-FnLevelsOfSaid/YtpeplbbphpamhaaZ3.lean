/- What the proof names: lemmas and words, merged by a program from its parts. No condition. -/
import Derived.Test.YtpeplbbphpamhaaZ2
import Derived.ChangeKeysEq
namespace Go.Proofs.Ytpeplbbphpamhaa.Ab
set_option linter.unusedVariables false
set_option linter.unusedSimpArgs false
open Go
def repB : A → Value → Bool
  | .bool b, .bool c => b == c
  | .int k n, .int k' m => k == k' && n == m
  | .fl k b, .float k' c => k == k' && canon k c == b
  | .cx k a b, .complex k' c d => k == k' && canon k c == a && canon k d == b
  | .nil, .slice none 0 0 => true
  | .big v, .slice none 0 0 => v == 0
  | _, _ => false
theorem repB_rep {x : A} {v : Value} (h : repB x v = true) (μ : Mu) : RepA μ x v := by
  unfold repB at h
  split at h
  · simp at h; subst h; rfl
  · simp at h; obtain ⟨rfl, rfl⟩ := h; rfl
  · simp at h; obtain ⟨rfl, h⟩ := h; exact ⟨_, rfl, h⟩
  · simp at h; obtain ⟨⟨rfl, h⟩, h'⟩ := h; exact ⟨_, _, rfl, h, h'⟩
  · rfl
  · simp at h; subst h; exact ⟨[], (fun d hd => by cases hd), rfl, by simp, .inl ⟨rfl, rfl⟩⟩
  · cases h
def repsB : List A → List Value → Bool
  | [], [] => true
  | x :: l, v :: m => repB x v && repsB l m
  | _, _ => false
theorem repsB_rep : ∀ {l : List A} {m : List Value}, repsB l m = true → ∀ μ, RepAs μ l m
  | [], [], _, _ => trivial
  | x :: l, v :: m, h, μ => by simp [repsB] at h; exact ⟨repB_rep h.1 μ, repsB_rep h.2 μ⟩
  | [], _ :: _, h, _ => by cases h
  | _ :: _, [], h, _ => by cases h
def descB (I : TyI) (d : TypeDesc) : Bool :=
  match I.d, d with
  | .other, _ => false
  | .bool, .bool => !I.agg
  | .int k, .int k' => k == k' && !I.agg
  | .fl k, .float k' => k == k' && !I.agg
  | .cx k, .complex k' => k == k' && !I.agg
  | .slice e, .slice e' => e == e' && !I.agg
  | .struct fs, .struct gs => fs == gs.toList.map (fun f => (f.offset, f.type)) && I.agg
  | .array n e, .array m e' => n == m && e == e' && I.agg
  | _, _ => false
def rowB (P : Program) (t : TypeId) (I : TyI) : Bool :=
  match P.info? t, P.underlying t with
  | some i, some d => i.size == I.size && i.bytes == I.bytes && I.zero.length == I.size && decide (0 < I.size) && (match i.zero with | some z => repsB I.zero z.cells.toList && (match z with | .agg _ => I.agg | _ => !I.agg) | none => false) && descB I d
  | _, _ => false
structure RowOk (P : Program) (t : TypeId) (I : TyI) (i : TypeInfo) (z : Value) (d : TypeDesc) : Prop where
  info : P.info? t = some i
  under : P.underlying t = some d
  size : i.size = I.size
  bytes : i.bytes = I.bytes
  zlen : I.zero.length = I.size
  pos : 0 < I.size
  zero : i.zero = some z
  rep : ∀ μ, RepAs μ I.zero z.cells.toList
  desc : descB I d = true
theorem rowB_ok {P : Program} {t : TypeId} {I : TyI} (h : rowB P t I = true) : ∃ i z d, RowOk P t I i z d := by
  unfold rowB at h
  split at h
  · rename_i i d hi hd
    simp only [Bool.and_eq_true, beq_iff_eq, decide_eq_true_eq] at h
    obtain ⟨⟨⟨⟨⟨h1, h2⟩, h3⟩, h4⟩, h5⟩, h6⟩ := h
    split at h5
    · rename_i z hz
      simp only [Bool.and_eq_true] at h5
      exact ⟨i, z, d, hi, hd, h1, h2, h3, h4, hz, repsB_rep h5.1, h6⟩
    · cases h5
  · cases h
def TyOk (P : Program) (ty : Ty) : Prop := ∀ t I, ty t = some I → rowB P t I = true
def tabB (P : Program) : Nat → List (Option TyI) → Bool
  | _, [] => true
  | n, none :: l => tabB P (n + 1) l
  | n, some I :: l => rowB P n I && tabB P (n + 1) l
theorem tabB_get {P : Program} : ∀ {l : List (Option TyI)} {n : Nat}, tabB P n l = true → ∀ (j : Nat) (I : TyI), l[j]? = some (some I) → rowB P (n + j) I = true
  | [], _, _, _, _, h => by simp at h
  | none :: l, n, h, j, I, e => by
    cases j with
    | zero => simp at e
    | succ j => simp at e; have := tabB_get (n := n + 1) h j I e; rwa [show n + 1 + j = n + (j + 1) by omega] at this
  | some J :: l, n, h, j, I, e => by
    simp [tabB] at h
    cases j with
    | zero => simp at e; subst e; exact h.1
    | succ j => simp at e; have := tabB_get (n := n + 1) h.2 j I e; rwa [show n + 1 + j = n + (j + 1) by omega] at this
theorem tyOk_of {P : Program} {tab : List (Option TyI)} (h : tabB P 0 tab = true) : TyOk P (fun t => match tab[t]? with | some o => o | none => none) := by
  intro t I e
  have : tab[t]? = some (some I) := by
    simp only at e
    split at e
    · rename_i o ho; rw [ho, e]
    · cases e
  have := tabB_get h t I this
  rwa [Nat.zero_add] at this
section
variable {P : Program} {t : TypeId} {I : TyI} {i : TypeInfo} {z : Value} {d : TypeDesc} (h : RowOk P t I i z d)
include h
theorem RowOk.agg_eq : I.agg = (match d with | .struct _ | .array _ _ => true | _ => false) := by
  have h1 := h.desc
  unfold descB at h1
  cases hd : I.d <;> cases d <;> simp_all
theorem RowOk.run_isAgg (w : World) : (Go.isAgg t).run P w = .ok I.agg w := by
  have h1 := h.agg_eq
  have h2 := run_underlying h.under w
  cases d <;> simp_all [Go.isAgg]
theorem RowOk.run_sizeOf (w : World) : (Go.sizeOf t).run P w = .ok I.size w := by
  simp [Go.sizeOf, run_typeInfo w h.info, h.size]
theorem RowOk.run_zero (w : World) : (Go.zeroValue t).run P w = .ok z w := by
  simp [Go.zeroValue, run_typeInfo w h.info, h.zero]
end
theorem row {P : Program} {ty : Ty} (hty : TyOk P ty) {t : TypeId} {I : TyI} (e : ty t = some I) : ∃ i z d, RowOk P t I i z d := rowB_ok (hty t I e)
end Go.Proofs.Ytpeplbbphpamhaa.Ab
