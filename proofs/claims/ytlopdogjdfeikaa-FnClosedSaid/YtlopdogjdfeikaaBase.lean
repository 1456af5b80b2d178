/- Words of the walks that a program prints: frames, answers by tests, loops over lists. Only lemmas. -/
import Derived.Test.YtlopdogjdfeikaaFl
namespace Go.Proofs.Ytlopdogjdfeikaa.Ab
set_option linter.unusedVariables false
set_option linter.unusedSimpArgs false
open Go

/-- Slots of which nothing is known, ahead of others. -/
def anys (n : Nat) (l : List V) : List V := Nat.rec (motive := fun _ => List V) l (fun _ r => .any :: r) n

/-! ### Frames -/
abbrev kEnd (fn : Func) (k : Nat) : X → St → Option (V × H) := fun x st => match x with | .exit _ => none | _ => finish ty fn k st
abbrev kSeqR {R : Type} (fns : Fns) (an : Ann) (N k : Nat) (c : Code) (K : X → St → Option R) : X → St → Option R := fun x st => match x with | .norm => exec ty fns an N k c st K | x => K x st
abbrev kBlkR {R : Type} (id : Nat) (K : X → St → Option R) : X → St → Option R := fun x st => match x with
  | .exit j => match decide (j = id) with
    | true => K .norm st
    | false => K (.exit j) st
  | x => K x st
def cAt : List Bool → Code → Code
  | [], c => c
  | false :: p, .seq a _ => cAt p a
  | true :: p, .seq _ b => cAt p b
  | false :: p, .cond _ a _ => cAt p a
  | true :: p, .cond _ _ b => cAt p b
  | _ :: p, .block _ b => cAt p b
  | _ :: p, .loop b => cAt p b
  | _ :: p, .scope b => cAt p b
  | _, _ => .skip
def atOf (p : List Bool) (fn : Func) : Code := match fn.body with | some c => cAt p c | none => .skip

/-! ### Answers by tests -/
theorem T.ite_inv {b : Bool} {x y : T} {v : V} {h' : H} (e : (T.ite b x y).run = some (v, h')) : (b = true ∧ x.run = some (v, h')) ∨ (b = false ∧ y.run = some (v, h')) := by
  cases b with
  | true => exact .inl ⟨rfl, e⟩
  | false => exact .inr ⟨rfl, e⟩
theorem T.pre_inv {b : Bool} {x : T} {v : V} {h' : H} (e : (T.ite b x .no).run = some (v, h')) : b = true ∧ x.run = some (v, h') := by
  rcases T.ite_inv e with h | ⟨_, h⟩
  · exact h
  · cases h
theorem T.ret_inv {a v : V} {g h' : H} (e : (T.ret a g).run = some (v, h')) : v = a ∧ h' = g := by cases e; exact ⟨rfl, rfl⟩
theorem T.no_inv {v : V} {h' : H} (e : T.no.run = some (v, h')) : False := by cases e

/-! ### Numbers -/
def posB (x : Nat) : Bool := finB x && gtB x 0
def nonB (x : Nat) : Bool := finB x && (gtB x 0 || eqB x 0)
def ltD (x y : Nat) : Bool := FloatKind.f64.format.order x y == some .lt
def gF1 (p : Nat → Bool) : G := fun vs h => match vs, h with | [.fl .f32 x], [] => some (.bool (p x), []) | _, _ => none
theorem not_pos (x : Nat) : (match !finB x with | true => true | false => ltB x 0 || eqB x 0) = !posB x := by
  unfold posB
  cases h : finB x with
  | false => rfl
  | true =>
    obtain ⟨o, ho⟩ := fin_cmp h
    unfold ltB eqB gtB
    rw [ho]
    cases o <;> rfl
theorem not_non (x : Nat) : (match !finB x with | true => true | false => ltB x 0) = !nonB x := by
  unfold nonB
  cases h : finB x with
  | false => rfl
  | true =>
    obtain ⟨o, ho⟩ := fin_cmp h
    unfold ltB eqB gtB
    rw [ho]
    cases o <;> rfl
theorem wrap_s {n : Int} (h0 : 0 ≤ n) (h1 : n < 9223372036854775808) : IntKind.i64.wrap n = n := by
  simp only [IntKind.wrap, IntKind.signed, IntKind.bits]
  first | omega | (simp; omega)
theorem wrap_z {n : Int} (h0 : -9223372036854775808 ≤ n) (h1 : n < 9223372036854775808) : IntKind.i64.wrap n = n := by
  simp only [IntKind.wrap, IntKind.signed, IntKind.bits]
  first | omega | (simp; omega)

/-! ### Indexes -/
theorem dlt {i n : Nat} (h : i < n) : decide ((i : Int) < (n : Int)) = true := by simp; omega
theorem dge {i n : Nat} (h : n ≤ i) : decide ((i : Int) < (n : Int)) = false := by simp; omega
theorem din {i n : Nat} (h : i < n) : decide (0 ≤ (i : Int) ∧ (i : Int) < ((n : Nat) : Int)) = true := by simp; omega
theorem ix {i : Nat} : 0 + ((i : Nat) : Int).toNat * 1 = i := by omega
theorem wr {i : Nat} (h : i < 2147483648) : IntKind.i64.wrap ((i : Int) + 1) = ((i + 1 : Nat) : Int) := by
  rw [wrap_s (by omega) (by omega)]; omega
theorem lt_of_get {α : Type} {l : List α} {i : Nat} {x : α} (h : l[i]? = some x) : i < l.length := (List.getElem?_eq_some_iff.1 h).1

/-- The first place where 't' holds. -/
def firstIx {α : Type} (t : α → Bool) : List α → Nat → Option Nat
  | [], _ => none
  | x :: l, i => match t x with
    | true => some i
    | false => firstIx t l (i + 1)
/-- A loop over a list that is left at the first place where 't' holds. -/
theorem scan {R α : Type} (l : List α) (t : α → Bool) (L : Nat → Int → Option R) (A : Nat → Option R) (Z : Option R)
    (hs : ∀ (M i : Nat) x, l[i]? = some x → L (M + 1) i = match t x with | true => A i | false => L M ((i + 1 : Nat) : Int))
    (he : ∀ M, L (M + 1) (l.length : Nat) = Z) :
    ∀ suf pre, l = pre ++ suf → ∀ M, L (suf.length + 1 + M) pre.length = match firstIx t suf pre.length with | some j => A j | none => Z := by
  intro suf
  induction suf with
  | nil =>
    intro pre hl M
    have hlen : pre.length = l.length := by rw [hl]; simp
    rw [show ([] : List α).length + 1 + M = M + 1 by simp; omega, hlen, he]
    rfl
  | cons x suf ih =>
    intro pre hl M
    rw [show (x :: suf).length + 1 + M = (suf.length + 1 + M) + 1 by simp; omega, hs _ _ x (by rw [hl]; simp)]
    unfold firstIx
    cases t x with
    | true => rfl
    | false =>
      have := ih (pre ++ [x]) (by rw [hl]; simp) M
      have e : pre.length + 1 = (pre ++ [x]).length := by simp
      rw [e]
      exact this
theorem scan0 {R α : Type} (l : List α) (t : α → Bool) (L : Nat → Int → Option R) (A : Nat → Option R) (Z : Option R)
    (hs : ∀ (M i : Nat) x, l[i]? = some x → L (M + 1) i = match t x with | true => A i | false => L M ((i + 1 : Nat) : Int))
    (he : ∀ M, L (M + 1) (l.length : Nat) = Z) : L (l.length + 1) 0 = match firstIx t l 0 with | some j => A j | none => Z := scan l t L A Z hs he l [] rfl 0
def ixOf {α : Type} (p : α → Bool) (l : List α) : Int := match firstIx p l 0 with | some j => (j : Int) | none => -1
theorem first_all {α : Type} (p : α → Bool) : ∀ (l : List α) (i : Nat), (firstIx (fun x => !p x) l i).isNone = l.all p
  | [], i => rfl
  | x :: l, i => by
    unfold firstIx
    simp only [List.all_cons]
    cases p x with
    | true => simp only [Bool.not_true, Bool.true_and]; exact first_all p l (i + 1)
    | false => simp
theorem ix_all {α : Type} (p : α → Bool) (l : List α) : (!(decide (ixOf (fun x => !p x) l ≥ 0))) = l.all p := by
  rw [← first_all p l 0]
  unfold ixOf
  cases firstIx (fun x => !p x) l 0 with
  | none => rfl
  | some j => simp

/-- A loop that counts up to 'n', its variables by a rule. -/
def rounds {σ : Type} (f : Nat → σ → σ) : Nat → Nat → σ → σ
  | 0, _, s => s
  | k + 1, i, s => rounds f k (i + 1) (f i s)
theorem count_up {R σ : Type} (n : Nat) (f : Nat → σ → σ) (L : Nat → Nat → σ → Option R) (Z : σ → Option R) (inv : Nat → σ → Prop)
    (hs : ∀ M i s, i < n → inv i s → L (M + 1) i s = L M (i + 1) (f i s) ∧ inv (i + 1) (f i s))
    (he : ∀ M s, inv n s → L (M + 1) n s = Z s) :
    ∀ k i s, i + k = n → inv i s → ∀ M, L (k + 1 + M) i s = Z (rounds f k i s) := by
  intro k
  induction k with
  | zero =>
    intro i s hi hv M
    have : i = n := by omega
    subst this
    rw [show 0 + 1 + M = M + 1 by omega]
    exact he M s hv
  | succ k ih =>
    intro i s hi hv M
    rw [show k + 1 + 1 + M = (k + 1 + M) + 1 by omega]
    obtain ⟨h1, h2⟩ := hs (k + 1 + M) i s (by omega) hv
    rw [h1]
    exact ih (i + 1) _ (by omega) h2 M
/-- What a loop that appends one element a turn makes. -/
theorem rounds_append {α : Type} (g : Nat → α) : ∀ k i (l : List α), rounds (fun i l => l ++ [g i]) k i l = l ++ (List.range' i k).map g
  | 0, i, l => by simp [rounds]
  | k + 1, i, l => by
    show rounds _ k (i + 1) (l ++ [g i]) = _
    rw [rounds_append g k (i + 1)]
    simp [List.range'_succ]

/-- An append is open: the block may be written, it is whole, it has room. -/
def apok (rw : Bool) (n sz len e q bt : Nat) : Bool := rw && decide (n * sz = len ∧ e = sz) && boundB q bt
theorem apc {i b : Nat} {α : Type} {l : List α} (h : l.length = i) (hi : i < 2147483648) (hb : b ≤ 16) : apok true i 1 l.length 1 (i + 1) b = true := by
  have h2 : (i + 1) * b ≤ 2147483648 * 16 := Nat.mul_le_mul (by omega) hb
  unfold apok
  rw [decide_eq_true (show i * 1 = l.length ∧ 1 = 1 from ⟨by omega, rfl⟩)]
  unfold boundB
  rw [decide_eq_true (show i + 1 ≤ 9223372036854775807 ∧ (i + 1) * b ≤ 140737488355328 from ⟨by omega, by omega⟩)]
  rfl
/-- A loop that counts and appends. -/
theorem app_loop {R α : Type} (n : Nat) (g : Nat → α) (L : Nat → Nat → List α → Option R) (Z : List α → Option R)
    (hs : ∀ M i l, i < n → l.length = i → L (M + 1) i l = L M (i + 1) (l ++ [g i]))
    (he : ∀ M l, l.length = n → L (M + 1) n l = Z l) : L (n + 1) 0 [] = Z ((List.range' 0 n).map g) := by
  have h := count_up n (fun i l => l ++ [g i]) L Z (fun i l => l.length = i) (fun M i s hi hv => ⟨hs M i s hi hv, by simp [hv]⟩) he n 0 [] (by omega) rfl 0
  rw [rounds_append] at h
  simpa using h
/-! ### Marks -/
def marks (k : Int) (n : Nat) : List Nat := (List.range' 0 n).map fun i : Nat => floatOfInt .f32 (k + (i : Int))
def marksI (k : Int) (n : Nat) : List Int := (List.range' 0 n).map fun i : Nat => k + (i : Int)
theorem marks_length (k : Int) (n : Nat) : (marks k n).length = n := by simp [marks]
theorem marksI_length (k : Int) (n : Nat) : (marksI k n).length = n := by simp [marksI]
theorem marks_get {k : Int} {n i : Nat} (h : i < n) : (marks k n)[i]? = some (floatOfInt .f32 (k + (i : Int))) := by simp [marks, h]
theorem marksI_get {k : Int} {n i : Nat} (h : i < n) : (marksI k n)[i]? = some (k + (i : Int)) := by simp [marksI, h]

theorem order_self {k : FloatKind} {x : Nat} (h : isN k x = false) : k.format.order x x = some .eq := by
  unfold isN at h
  have h : (k.format.read x).isNaN = false := h
  unfold Ieee.Format.order
  revert h
  cases k.format.read x with
  | nan s f => intro h; exact Bool.noConfusion (show true = false from h)
  | infinity s => intro _; cases s <;> rfl
  | number s m e =>
    intro _
    unfold Ieee.Datum.order
    simp
theorem mark_rounds (g : Int → Nat) : ∀ k i (q : Int) (pre r : List Nat), r.length = k → pre.length = i → rounds (fun i (s : Int × List Nat) => (s.1 + 1, s.2.set i (g s.1))) k i (q, pre ++ r) = (q + (k : Int), pre ++ (List.range' 0 k).map fun j : Nat => g (q + (j : Int)))
  | 0, i, q, pre, r, hr, _ => by
    have : r = [] := by simpa using hr
    subst this
    simp [rounds]
  | k + 1, i, q, pre, [], hr, _ => by simp at hr
  | k + 1, i, q, pre, x :: r, hr, hp => by
    show rounds _ k (i + 1) (q + 1, (pre ++ x :: r).set i (g q)) = _
    have e : (pre ++ x :: r).set i (g q) = (pre ++ [g q]) ++ r := by
      rw [List.set_append_right _ _ (by omega)]
      simp [hp]
    rw [e, mark_rounds g k (i + 1) (q + 1) _ _ (by simpa using hr) (by simp [hp])]
    simp only [List.append_assoc, Prod.mk.injEq]
    refine ⟨by omega, ?_⟩
    congr 1
    rw [List.range'_succ, List.map_cons, show (0 : Nat) + 1 = 1 from rfl, List.range'_eq_map_range, List.range'_eq_map_range]
    simp only [List.map_map, List.singleton_append, List.cons.injEq]
    refine ⟨by simp, ?_⟩
    apply List.map_congr_left
    intro j _
    simp only [Function.comp]
    congr 1
    omega
theorem mark_all (q : Int) (l : List Nat) (n : Nat) (h : l.length = n) : rounds (fun i (s : Int × List Nat) => (s.1 + 1, s.2.set i (floatOfInt .f32 s.1))) n 0 (q, l) = (q + (n : Int), marks q n) := mark_rounds (floatOfInt .f32) n 0 q [] l h rfl
abbrev nilF : V := .tup [.a .nil, .a (.bool false)]
def eqL : List Nat → List Nat → Bool
  | x :: l, y :: l' => match !sameB (up x) (up y) with
    | true => false
    | false => eqL l l'
  | _, _ => true
theorem eqL_self : ∀ l, eqL l l = true
  | [] => rfl
  | x :: l => by
    unfold eqL
    rw [sameB_self]
    exact eqL_self l
end Go.Proofs.Ytlopdogjdfeikaa.Ab
