/- Lists of complex numbers; loops that append or fail. Only lemmas. Printed by gen_waven.py. -/
import Derived.Test.YtbhfjdlhhjeknaaExact
import Derived.Test.YtbhfjdlhhjeknaaLib
namespace Go.Proofs.Ytbhfjdlhhjeknaa.Ab
set_option linter.unusedVariables false
set_option linter.unusedSimpArgs false
open Go
theorem ok_msqrt : FnT Try.prog 155 gSqrt := sqrt_ok Try.func155 (by decide) (by rfl) (by rfl) (by rfl)
def tab_mSqrt : Fns := tabT [(155, gSqrt)]
theorem tabok_mSqrt : ∀ f, FnT Try.prog f (tab_mSqrt f) := (tabT_cons (k := 155) ok_msqrt tabT_nil)
theorem run_mSqrt (N : Nat) (x : Nat) : run ty tab_mSqrt ann0 N Try.f99 [.fl .f64 x] []
    = some (.fl .f64 (fsqrt x), []) := by
  kernel_rfl

theorem ok_mSqrt : FnT Try.prog 99 (gSqrt) := by
  refine fnT tabok_mSqrt Try.func99 rfl rfl ann0 fun vs h v h' e => ⟨0, ?_⟩
  unfold gSqrt at e
  split at e
  case h_2 => exact (T.no_inv e).elim
  obtain ⟨rfl, rfl⟩ := T.ret_inv e
  exact run_mSqrt 0 _
def narOk (x : Nat) : Bool := (fconv .f64 x .f32).isSome
def nar (x : Nat) : Nat := (fconv .f64 x .f32).getD 0
def gNar : GT := fun vs h => match vs, h with | [.fl .f64 x], [] => .ite (narOk x) (.ret (.fl .f32 (nar x)) []) .no | _, _ => .no
def tab_l01Narrow : Fns := tabT []
theorem tabok_l01Narrow : ∀ f, FnT Try.prog f (tab_l01Narrow f) := tabT_nil
theorem run_l01Narrow (N : Nat) (x : Nat) : run ty tab_l01Narrow ann0 N Try.f138 [.fl .f64 x] []
    = (match fconv .f64 x .f32 with | some c1 => some (.fl .f32 c1, []) | none => none) := by
  kernel_rfl

theorem ok_l01Narrow : FnT Try.prog 138 (gNar) := by
  refine fnT tabok_l01Narrow Try.func138 rfl rfl ann0 fun vs h v h' e => ⟨0, ?_⟩
  unfold gNar at e
  split at e
  case h_2 => exact (T.no_inv e).elim
  rename_i x
  obtain ⟨hx, e⟩ := T.pre_inv e
  obtain ⟨rfl, rfl⟩ := T.ret_inv e
  refine Eq.trans (run_l01Narrow 0 x) ?_
  unfold narOk at hx
  unfold nar
  cases hy : fconv .f64 x .f32 with
  | none => rw [hy] at hx; cases hx
  | some y => rfl
def gRoot : G := fun vs h => match vs, h with | [.fl .f32 x], [] => some (.fl .f32 (rootF x), []) | _, _ => none
def tab_l01Sqrt : Fns := tabT [(99, gSqrt), (138, gNar)]
theorem tabok_l01Sqrt : ∀ f, FnT Try.prog f (tab_l01Sqrt f) := (tabT_cons (k := 99) ok_mSqrt (tabT_cons (k := 138) ok_l01Narrow tabT_nil))
theorem run_l01Sqrt (N : Nat) (x : Nat) : run ty tab_l01Sqrt ann0 N Try.f129 [.fl .f32 x] []
    = (match fconv .f32 x .f64 with | some c1 => (match narOk (fsqrt c1) with | true => some (.fl .f32 (nar (fsqrt c1)), []) | false => none) | none => none) := by
  kernel_rfl

theorem ok_l01Sqrt : FnT Try.prog 129 (gT gRoot) := by
  refine fnT tabok_l01Sqrt Try.func129 rfl rfl ann0 fun vs h v h' e => ⟨0, ?_⟩
  rw [T.run_of] at e
  unfold gRoot at e
  split at e
  case h_2 => cases e
  rename_i x
  cases e
  refine Eq.trans (run_l01Sqrt 0 x) ?_
  simp only [fconv_eq, narOk, nar, rootF_eq, Option.isSome_some, Option.getD_some]
def tab_RootNumber : Fns := tabT [(99, gSqrt)]
theorem tabok_RootNumber : ∀ f, FnT Try.prog f (tab_RootNumber f) := (tabT_cons (k := 99) ok_mSqrt tabT_nil)
theorem run_RootNumber (N : Nat) (x : Nat) : run ty tab_RootNumber ann0 N Try.f41 [.fl .f32 x] []
    = (match fconv .f32 x .f64 with | some c1 => (match fconv .f64 (fsqrt c1) .f32 with | some c2 => some (.fl .f32 c2, []) | none => none) | none => none) := by
  kernel_rfl

theorem ok_RootNumber : FnT Try.prog 41 (gT gRoot) := by
  refine fnT tabok_RootNumber Try.func41 rfl rfl ann0 fun vs h v h' e => ⟨0, ?_⟩
  rw [T.run_of] at e
  unfold gRoot at e
  split at e
  case h_2 => cases e
  rename_i x
  cases e
  refine Eq.trans (run_RootNumber 0 x) ?_
  simp only [fconv_eq, rootF_eq, Option.isSome_some, Option.getD_some]
theorem T.run_ite (b : Bool) (x y : T) : (T.ite b x y).run = match b with | true => x.run | false => y.run := rfl
theorem T.run_ret (v : V) (h : H) : (T.ret v h).run = some (v, h) := rfl
theorem FnT.runs {f : FuncId} {fn : Func} {code : Code} {fns : Fns} (hfn : ∀ f, FnT Try.prog f (fns f)) (hf : Try.prog.funcs[f]? = some fn) (hb : fn.body = some code) (hn : (fn.name == "runtime.NumGoroutine") = false) (an : Ann) (N : Nat) :
    FnT Try.prog f (fun vs h => T.of (run ty fns an N fn vs h)) :=
  fnT hfn hf hb hn an fun vs h v h' e => ⟨N, by rw [T.run_of] at e; exact e⟩
theorem getD_some' {l : List Nat} {i : Nat} (h : i < l.length) : l[i]? = some (l.getD i 0) := by simp [List.getD_eq_getElem?_getD, h]
theorem neq_dec (a b : Int) : (a != b) = !decide (a = b) := by
  by_cases h : a = b
  · subst h; simp
  · simp [h]
theorem first_any {α : Type} (t : α → Bool) : ∀ (l : List α) (i : Nat), (firstIx t l i).isSome = l.any t
  | [], i => rfl
  | x :: l, i => by
    unfold firstIx
    rw [List.any_cons]
    cases t x with
    | true => rfl
    | false => exact first_any t l (i + 1)
theorem any_not {α : Type} (q : α → Bool) (l : List α) : (l.any fun x => !q x) = !(l.all q) := by
  induction l with
  | nil => rfl
  | cons x l ih => simp only [List.any_cons, List.all_cons, ih]; cases q x <;> rfl
theorem scanR {R : Type} (n : Nat) (t : Nat → Bool) (L : Nat → Int → Option R) (A Z : Option R)
    (hs : ∀ (M i : Nat), i < n → L (M + 1) i = match t i with | true => A | false => L M ((i + 1 : Nat) : Int))
    (he : ∀ M, L (M + 1) (n : Nat) = Z) : L (n + 1) 0 = match (List.range n).any t with | true => A | false => Z := by
  have h := scan0 (List.range n) t L (fun _ => A) Z (fun M i x hx => by
    have hi : i < n := by have := lt_of_get hx; simpa using this
    rw [List.getElem?_range hi] at hx
    cases hx
    exact hs M i hi) (fun M => by rw [List.length_range]; exact he M)
  rw [List.length_range] at h
  rw [h, ← first_any t (List.range n) 0]
  cases firstIx t (List.range n) 0 <;> rfl
/-- A loop over a list that appends one element a turn, or fails. -/
theorem app_scan {α β R : Type} (l : List α) (q : α → Bool) (g : α → β) (L : Nat → Nat → List β → Option R) (A : Option R) (Z : List β → Option R)
    (hs : ∀ (M i : Nat) (out : List β) (x : α), l[i]? = some x → out.length = i → L (M + 1) i out = match q x with | true => L M (i + 1) (out ++ [g x]) | false => A)
    (he : ∀ M out, out.length = l.length → L (M + 1) l.length out = Z out) :
    ∀ suf pre, l = pre ++ suf → ∀ M, L (suf.length + 1 + M) pre.length (pre.map g) = match suf.all q with | true => Z (l.map g) | false => A := by
  intro suf
  induction suf with
  | nil =>
    intro pre hl M
    have hp : pre = l := by rw [hl]; simp
    rw [show ([] : List α).length + 1 + M = M + 1 by simp; omega]
    subst hp
    exact he M _ (by simp)
  | cons x suf ih =>
    intro pre hl M
    rw [show (x :: suf).length + 1 + M = (suf.length + 1 + M) + 1 by simp; omega, hs _ _ _ x (by rw [hl]; simp) (by simp), List.all_cons]
    cases q x with
    | false => rfl
    | true =>
      rw [Bool.true_and]
      have := ih (pre ++ [x]) (by rw [hl]; simp) M
      rw [List.map_append, List.map_singleton, List.length_append, List.length_singleton] at this
      exact this
def cfB (z : Nat × Nat) : Bool := finB z.1 && finB z.2
def ncB (x y : Nat) : Bool := !(finB x && finB y)
def eqCB (l l' : List (Nat × Nat)) : Bool := (l.length == l'.length) && (firstIx (fun p : (Nat × Nat) × (Nat × Nat) => !(sameB (up p.1.1) (up p.2.1) && sameB (up p.1.2) (up p.2.2))) (l.zip l') 0).isNone
theorem firstC_self (l : List (Nat × Nat)) : ∀ i, (firstIx (fun p : (Nat × Nat) × (Nat × Nat) => !(sameB (up p.1.1) (up p.2.1) && sameB (up p.1.2) (up p.2.2))) (l.zip l) i) = none := by
  induction l with
  | nil => intro i; rfl
  | cons x l ih => intro i; simp only [List.zip_cons_cons, firstIx, sameB_self, Bool.and_self, Bool.not_true]; exact ih (i + 1)
theorem eqCB_self (l : List (Nat × Nat)) : eqCB l l = true := by
  unfold eqCB
  rw [firstC_self]
  simp
def mkcN (k : Int) : Nat := (fconv .f64 (floatOfInt .f64 k) .f32).getD 0
theorem mkcN_ok {k : Int} (h0 : 0 ≤ k) (h1 : k < 4294967296) : fconv .f64 (floatOfInt .f64 k) .f32 = some (mkcN k) ∧ eqB (mkcN k) (mkcN k) = true := by
  have hb : BelD 33 (floatOfInt .f64 k) := by
    have e : floatOfInt .f64 k = Ieee.double.nearest (decide (k < 0)) k.natAbs 0 := rfl
    rw [e]
    refine beld_near (B := 32) ?_ (by decide) (by decide)
    by_cases hn : k.natAbs = 0
    · exact .inl hn
    · right
      have := (Nat.log2_lt hn).2 (show k.natAbs < 2 ^ 32 by omega)
      omega
  obtain ⟨r, hr⟩ := beld_conv (hb.mono (by decide))
  have hm : mkcN k = r := by unfold mkcN; rw [hr]; rfl
  obtain ⟨s, m, e, hx, _⟩ := bel_of_conv hb (by decide) (by decide) hr
  refine ⟨by rw [hr, hm], ?_⟩
  rw [hm]
  unfold eqB
  rw [order_self (by unfold isN; show (FloatKind.f32.format.read r).isNaN = false; rw [hx]; rfl)]
  rfl
def marksC (k : Int) (n : Nat) : List (Nat × Nat) := (List.range' 0 n).map fun i : Nat => (mkcN (k + (i : Int)), 1065353216)
theorem marksC_length (k : Int) (n : Nat) : (marksC k n).length = n := by simp [marksC]
theorem marksC_get {k : Int} {n i : Nat} (h : i < n) : (marksC k n)[i]? = some (mkcN (k + (i : Int)), 1065353216) := by simp [marksC, h]
theorem markC_rounds (g : Int → Nat × Nat) : ∀ k i (q : Int) (pre r : List (Nat × Nat)), r.length = k → pre.length = i → rounds (fun i (s : Int × List (Nat × Nat)) => (s.1 + 1, s.2.set i (g s.1))) k i (q, pre ++ r) = (q + (k : Int), pre ++ (List.range' 0 k).map fun j : Nat => g (q + (j : Int)))
  | 0, i, q, pre, r, hr, _ => by
    have : r = [] := by simpa using hr
    subst this
    simp [rounds]
  | k + 1, i, q, pre, [], hr, _ => by simp at hr
  | k + 1, i, q, pre, x :: r, hr, hp => by
    show rounds _ k (i + 1) (q + 1, (pre ++ x :: r).set i (g q)) = _
    have e : (pre ++ x :: r).set i (g q) = (pre ++ [g q]) ++ r := by
      rw [List.set_append_right _ _ (by omega)]
      simp [hp]
    rw [e, markC_rounds g k (i + 1) (q + 1) _ _ (by simpa using hr) (by simp [hp])]
    simp only [List.append_assoc, Prod.mk.injEq]
    refine ⟨by omega, ?_⟩
    congr 1
    rw [List.range'_succ, List.map_cons, show (0 : Nat) + 1 = 1 from rfl, List.range'_eq_map_range, List.range'_eq_map_range]
    simp only [List.map_map, List.singleton_append, List.cons.injEq]
    refine ⟨by simp, ?_⟩
    apply List.map_congr_left
    intro j _
    simp only [Function.comp]
    congr 1
    omega
theorem zipC_get {l l' : List (Nat × Nat)} {i : Nat} {x : (Nat × Nat) × (Nat × Nat)} (h : (l.zip l')[i]? = some x) : l[i]? = some x.1 ∧ l'[i]? = some x.2 := by
  rw [List.getElem?_zip_eq_some] at h
  exact h
def gEqC : GT := fun vs h => match vs, h with
  | [.sl 0 0 n, .sl 1 0 m], [.at r1 (.cx .f32 l), .at r2 (.cx .f32 l')] => .ite (decide (l.length = n ∧ l'.length = m ∧ n < 2147483648 ∧ m < 2147483648)) (.ret (.bool (eqCB l l')) [.at r1 (.cx .f32 l), .at r2 (.cx .f32 l')]) .no
  | [.nil, .nil], [] => .ret (.bool true) []
  | _, _ => .no
def gMarkC : GT := fun vs h => match vs, h with
  | [.sl 0 0 n, .int .i64 k], [.at true (.cx .f32 l)] => .ite (decide (l.length = n ∧ n < 2147483648 ∧ 0 ≤ k ∧ k.toNat < 2147483648)) (.ret (.int .i64 (k + (n : Int))) [.at true (.cx .f32 (marksC k n))]) .no
  | [.nil, .int .i64 k], [] => .ret (.int .i64 k) []
  | _, _ => .no
def gHeldC : GT := fun vs h => match vs, h with
  | [.sl 0 0 n, .int .i64 k], [.at rw (.cx .f32 l)] => .ite (decide (l = marksC k n ∧ n < 2147483648 ∧ 0 ≤ k ∧ k.toNat < 2147483648)) (.ret (.int .i64 (k + (n : Int))) [.at rw (.cx .f32 l)]) .no
  | [.nil, .int .i64 k], [] => .ret (.int .i64 k) []
  | _, _ => .no
def tab_saC : Fns := tabT [(26, gT gSame)]
theorem tabok_saC : ∀ f, FnT Try.prog f (tab_saC f) := (tabT_cons (k := 26) ok_sameFloat tabT_nil)
theorem run_saC (N : Nat) (a : Nat) (b : Nat) (c : Nat) (d : Nat) : run ty tab_saC ann0 N Try.f75 [.cx .f64 a b, .cx .f64 c d] []
    = (match sameB a c with | true => some (.bool (sameB b d), []) | false => some (.bool false, [])) := by
  kernel_rfl

def gSaC : GT := fun vs h => match vs, h with | [.cx .f64 a b, .cx .f64 c d], [] => .ret (.bool (sameB a c && sameB b d)) [] | _, _ => .no
theorem ok_saC : FnT Try.prog 75 gSaC := by
  refine fnT tabok_saC Try.func75 rfl rfl ann0 fun vs h v h' e => ⟨0, ?_⟩
  unfold gSaC at e
  split at e
  case h_2 => exact (T.no_inv e).elim
  rename_i a b c d
  obtain ⟨rfl, rfl⟩ := T.ret_inv e
  refine Eq.trans (run_saC 0 _ _ _ _) ?_
  cases sameB a c <;> rfl
def an_eqC : Ann := ⟨fun r => if r = 4 then some ([0, 1, 5], [4]) else none, fun _ _ => .quiet⟩
def tab_eqC : Fns := tabT [(75, gSaC)]
theorem tabok_eqC : ∀ f, FnT Try.prog f (tab_eqC f) := (tabT_cons (k := 75) ok_saC tabT_nil)
def st_eqC4 (a0n : Nat) (b1n : Nat) (i5 : Int) (rw0 : Bool) (l0 : List (Nat × Nat)) (rw1 : Bool) (l1 : List (Nat × Nat)) : St := ⟨(.sl 0 0 a0n :: .sl 1 0 b1n :: .any :: .any :: .any :: .int .i64 i5 :: (anys 23 [])), [.at rw0 (.cx .f32 l0), .at rw1 (.cx .f32 l1)]⟩
abbrev kp_eqC4 : Option (List Nat × List Nat) := some ([0, 1, 5], [4])
noncomputable def lp_eqC4 {R : Type} (N M : Nat) (s : St) (K : X → St → Option R) : Option R := loopH 2 kp_eqC4 (fun st K => exec ty tab_eqC an_eqC N 2 (atOf [true, true, false, true, false, false] Try.f19) st K) M s K
noncomputable def bk_eqC4 {R : Type} (N M : Nat) (K : X → St → Option R) : X → St → Option R := fun x st => match x with | .norm => tidyK 2 (kp_eqC4.map (·.1)) st fun st => lp_eqC4 N M st K | x => tidyK 2 (kp_eqC4.map (·.2)) st fun st => K x st
noncomputable def kt_eqC4 {R : Type} (N : Nat) (K : X → St → Option R) : X → St → Option R := kBlkR 0 (kSeqR tab_eqC an_eqC N 2 (atOf [true, true, true] Try.f19) (K))
def en_eqC4_0 (rw0 : Bool) (l0 : List (Nat × Nat)) (rw1 : Bool) (l1 : List (Nat × Nat)) : St := ⟨(.any :: .any :: .any :: .any :: .bool false :: (anys 24 [])), [.at rw0 (.cx .f32 l0), .at rw1 (.cx .f32 l1)]⟩
def en_eqC4_1 (rw0 : Bool) (l0 : List (Nat × Nat)) (rw1 : Bool) (l1 : List (Nat × Nat)) : St := ⟨(anys 29 []), [.at rw0 (.cx .f32 l0), .at rw1 (.cx .f32 l1)]⟩
theorem run_eqC (N : Nat) (n : Nat) (m : Nat) (r1 : Bool) (l : List (Nat × Nat)) (r2 : Bool) (l' : List (Nat × Nat)) : run ty tab_eqC an_eqC N Try.f19 [.sl 0 0 n, .sl 1 0 m] [.at r1 (.cx .f32 l), .at r2 (.cx .f32 l')]
    = (match ((n : Nat) : Int) != ((m : Nat) : Int) with | true => some (.bool false, [.at r1 (.cx .f32 l), .at r2 (.cx .f32 l')]) | false => lp_eqC4 N N (st_eqC4 n m 0 r1 l r2 l') (kt_eqC4 N (kEnd Try.f19 2))) := by
  kernel_rfl
theorem step_eqC4 {R : Type} (N M : Nat) (K : X → St → Option R) (a0n : Nat) (b1n : Nat) (i5 : Int) (rw0 : Bool) (l0 : List (Nat × Nat)) (rw1 : Bool) (l1 : List (Nat × Nat)) : lp_eqC4 N (M + 1) (st_eqC4 a0n b1n i5 rw0 l0 rw1 l1) K
    = (match decide ((i5 : Int) < ((a0n : Nat) : Int)) with | true => (match decide (0 ≤ (i5 : Int) ∧ (i5 : Int) < ((a0n : Nat) : Int)) with | true => (match l0[0 + (i5).toNat * 1]? with | some (e1, e2) => (match fconv .f32 e1 .f64 with | some c3 => (match fconv .f32 e2 .f64 with | some c4 => (match decide (0 ≤ (i5 : Int) ∧ (i5 : Int) < ((b1n : Nat) : Int)) with | true => (match l1[0 + (i5).toNat * 1]? with | some (e5, e6) => (match fconv .f32 e5 .f64 with | some c7 => (match fconv .f32 e6 .f64 with | some c8 => (match !(sameB c3 c7 && sameB c4 c8) with | true => K .ret (en_eqC4_0 rw0 l0 rw1 l1) | false => lp_eqC4 N M (st_eqC4 a0n b1n (IntKind.i64.wrap (i5 + 1)) rw0 l0 rw1 l1) K) | none => none) | none => none) | none => none) | false => none) | none => none) | none => none) | none => none) | false => none) | false => K (.exit 0) (en_eqC4_1 rw0 l0 rw1 l1)) := by
  kernel_rfl
theorem end_eqC4_0 (N : Nat) (rw0 : Bool) (l0 : List (Nat × Nat)) (rw1 : Bool) (l1 : List (Nat × Nat)) : kt_eqC4 N (kEnd Try.f19 2) .ret (en_eqC4_0 rw0 l0 rw1 l1)
    = some (.bool false, [.at rw0 (.cx .f32 l0), .at rw1 (.cx .f32 l1)]) := by
  kernel_rfl
theorem end_eqC4_1 (N : Nat) (rw0 : Bool) (l0 : List (Nat × Nat)) (rw1 : Bool) (l1 : List (Nat × Nat)) : kt_eqC4 N (kEnd Try.f19 2) (.exit 0) (en_eqC4_1 rw0 l0 rw1 l1)
    = some (.bool true, [.at rw0 (.cx .f32 l0), .at rw1 (.cx .f32 l1)]) := by
  kernel_rfl

theorem ok_eqC : FnT Try.prog 19 gEqC := by
  refine fnT tabok_eqC Try.func19 rfl rfl an_eqC fun vs h v h' e => ?_
  unfold gEqC at e
  split at e
  · rename_i n m r1 l r2 l'
    obtain ⟨hd, e⟩ := T.pre_inv e
    obtain ⟨rfl, rfl⟩ := T.ret_inv e
    obtain ⟨rfl, rfl, hb, hb'⟩ := of_decide_eq_true hd
    refine ⟨l.length + 1, Eq.trans (run_eqC _ _ _ _ _ _ _) ?_⟩
    unfold eqCB
    by_cases hl : l.length = l'.length
    · rw [show ((l.length : Int) != (l'.length : Int)) = false by simp; omega, show (l.length == l'.length) = true by simpa using hl]
      have hz : (l.zip l').length = l.length := by simp; omega
      refine Eq.trans (b := match firstIx (fun p : (Nat × Nat) × (Nat × Nat) => !(sameB (up p.1.1) (up p.2.1) && sameB (up p.1.2) (up p.2.2))) (l.zip l') 0 with | some _ => some (.bool false, [.at r1 (.cx .f32 l), .at r2 (.cx .f32 l')]) | none => some (.bool true, [.at r1 (.cx .f32 l), .at r2 (.cx .f32 l')])) ?_ (by cases firstIx (fun p : (Nat × Nat) × (Nat × Nat) => !(sameB (up p.1.1) (up p.2.1) && sameB (up p.1.2) (up p.2.2))) (l.zip l') 0 <;> rfl)
      have hs := scan0 (l.zip l') (fun p : (Nat × Nat) × (Nat × Nat) => !(sameB (up p.1.1) (up p.2.1) && sameB (up p.1.2) (up p.2.2))) (fun M i => lp_eqC4 (l.length + 1) M (st_eqC4 l.length l'.length i r1 l r2 l') (kt_eqC4 (l.length + 1) (kEnd Try.f19 2))) (fun _ => some (.bool false, [.at r1 (.cx .f32 l), .at r2 (.cx .f32 l')])) (some (.bool true, [.at r1 (.cx .f32 l), .at r2 (.cx .f32 l')])) (fun M i x hx => ?_) (fun M => ?_)
      · rw [hz] at hs
        exact hs
      · have hi := lt_of_get hx
        rw [hz] at hi
        obtain ⟨h1, h2⟩ := zipC_get hx
        obtain ⟨⟨x1, x2⟩, ⟨x3, x4⟩⟩ := x
        simp only [step_eqC4, dlt hi, din hi, din (show i < l'.length by omega), ix, h1, h2, fconv_eq, wr (show i < 2147483648 by omega), end_eqC4_0] <;> (cases (sameB (up x1) (up x3) && sameB (up x2) (up x4)) <;> rfl)
      · rw [hz]
        simp only [step_eqC4, dge (Nat.le_refl _), end_eqC4_1]
    · rw [show ((l.length : Int) != (l'.length : Int)) = true by simp; omega, show (l.length == l'.length) = false by simpa using hl]
      rfl
  · obtain ⟨rfl, rfl⟩ := T.ret_inv e
    exact ⟨1, by kernel_rfl⟩
  · exact (T.no_inv e).elim
def an_maC : Ann := ⟨fun r => if r = 2 then some ([0, 1, 5], [1]) else none, fun _ _ => .quiet⟩
def tab_maC : Fns := tabT []
theorem tabok_maC : ∀ f, FnT Try.prog f (tab_maC f) := tabT_nil
def st_maC2 (a0n : Nat) (k1 : Int) (i5 : Int) (l0 : List (Nat × Nat)) : St := ⟨(.sl 0 0 a0n :: .int .i64 k1 :: .any :: .any :: .any :: .int .i64 i5 :: (anys 16 [])), [.at true (.cx .f32 l0)]⟩
abbrev kp_maC2 : Option (List Nat × List Nat) := some ([0, 1, 5], [1])
noncomputable def lp_maC2 {R : Type} (N M : Nat) (s : St) (K : X → St → Option R) : Option R := loopH 1 kp_maC2 (fun st K => exec ty tab_maC an_maC N 1 (atOf [true, false, true, false, false] Try.f22) st K) M s K
noncomputable def bk_maC2 {R : Type} (N M : Nat) (K : X → St → Option R) : X → St → Option R := fun x st => match x with | .norm => tidyK 1 (kp_maC2.map (·.1)) st fun st => lp_maC2 N M st K | x => tidyK 1 (kp_maC2.map (·.2)) st fun st => K x st
noncomputable def kt_maC2 {R : Type} (N : Nat) (K : X → St → Option R) : X → St → Option R := kBlkR 0 (kSeqR tab_maC an_maC N 1 (atOf [true, true] Try.f22) (K))
def en_maC2_0 (k1 : Int) (l0 : List (Nat × Nat)) : St := ⟨(.any :: .int .i64 k1 :: (anys 20 [])), [.at true (.cx .f32 l0)]⟩
theorem run_maC (N : Nat) (n : Nat) (k : Int) (l : List (Nat × Nat)) : run ty tab_maC an_maC N Try.f22 [.sl 0 0 n, .int .i64 k] [.at true (.cx .f32 l)]
    = lp_maC2 N N (st_maC2 n k 0 l) (kt_maC2 N (kEnd Try.f22 1)) := by
  kernel_rfl
theorem step_maC2 {R : Type} (N M : Nat) (K : X → St → Option R) (a0n : Nat) (k1 : Int) (i5 : Int) (l0 : List (Nat × Nat)) : lp_maC2 N (M + 1) (st_maC2 a0n k1 i5 l0) K
    = (match decide ((i5 : Int) < ((a0n : Nat) : Int)) with | true => (match fconv .f64 (floatOfInt .f64 k1) .f32 with | some c1 => (match decide (0 ≤ (i5 : Int) ∧ (i5 : Int) < ((a0n : Nat) : Int)) with | true => (match decide (0 + (i5).toNat * 1 < l0.length) with | true => lp_maC2 N M (st_maC2 a0n (IntKind.i64.wrap (k1 + 1)) (IntKind.i64.wrap (i5 + 1)) (l0.set (0 + (i5).toNat * 1) (c1, 1065353216))) K | false => none) | false => none) | none => none) | false => K (.exit 0) (en_maC2_0 k1 l0)) := by
  kernel_rfl
theorem end_maC2_0 (N : Nat) (k1 : Int) (l0 : List (Nat × Nat)) : kt_maC2 N (kEnd Try.f22 1) (.exit 0) (en_maC2_0 k1 l0)
    = some (.int .i64 k1, [.at true (.cx .f32 l0)]) := by
  kernel_rfl

theorem ok_maC : FnT Try.prog 22 gMarkC := by
  refine fnT tabok_maC Try.func22 rfl rfl an_maC fun vs h v h' e => ?_
  unfold gMarkC at e
  split at e
  · rename_i n k l
    obtain ⟨hd, e⟩ := T.pre_inv e
    obtain ⟨rfl, rfl⟩ := T.ret_inv e
    obtain ⟨rfl, hb, hk, hk'⟩ := of_decide_eq_true hd
    refine ⟨l.length + 1, Eq.trans (run_maC _ _ _ _) ?_⟩
    have hc := count_up l.length (fun i (s : Int × List (Nat × Nat)) => (s.1 + 1, s.2.set i ((fun q : Int => (mkcN q, 1065353216)) s.1))) (fun M i s => lp_maC2 (l.length + 1) M (st_maC2 l.length s.1 (i : Int) s.2) (kt_maC2 (l.length + 1) (kEnd Try.f22 1))) (fun s => some (.int .i64 s.1, [.at true (.cx .f32 s.2)])) (fun i s => s.1 = k + (i : Int) ∧ s.2.length = l.length)
      (fun M i s hi hv => ?_) (fun M s hv => ?_) l.length 0 (k, l) (by omega) ⟨by simp, rfl⟩ 0
    · have hr := markC_rounds (fun q : Int => (mkcN q, 1065353216)) l.length 0 k [] l rfl rfl
      rw [List.nil_append, List.nil_append] at hr
      rw [hr, show l.length + 1 + 0 = l.length + 1 by omega] at hc
      exact hc
    · refine ⟨?_, by dsimp only; rw [hv.1]; omega, by simp [hv.2]⟩
      have hm := (mkcN_ok (k := s.1) (by rw [hv.1]; omega) (by rw [hv.1]; omega)).1
      simp only [step_maC2, dlt hi, din hi, ix, hm, decide_eq_true (show i < s.2.length by rw [hv.2]; exact hi), wr (show i < 2147483648 by omega), wrap_s (show 0 ≤ s.1 + 1 by rw [hv.1]; omega) (by rw [hv.1]; omega)]
    · simp only [step_maC2, dge (Nat.le_refl _), end_maC2_0]
  · obtain ⟨rfl, rfl⟩ := T.ret_inv e
    exact ⟨1, by kernel_rfl⟩
  · exact (T.no_inv e).elim
def an_heC : Ann := ⟨fun r => if r = 2 then some ([0, 1, 5], [1, 4]) else none, fun _ _ => .quiet⟩
def tab_heC : Fns := tabT []
theorem tabok_heC : ∀ f, FnT Try.prog f (tab_heC f) := tabT_nil
def st_heC2 (a0n : Nat) (k1 : Int) (i5 : Int) (rw0 : Bool) (l0 : List (Nat × Nat)) : St := ⟨(.sl 0 0 a0n :: .int .i64 k1 :: .any :: .any :: .any :: .int .i64 i5 :: (anys 18 [])), [.at rw0 (.cx .f32 l0)]⟩
abbrev kp_heC2 : Option (List Nat × List Nat) := some ([0, 1, 5], [1, 4])
noncomputable def lp_heC2 {R : Type} (N M : Nat) (s : St) (K : X → St → Option R) : Option R := loopH 1 kp_heC2 (fun st K => exec ty tab_heC an_heC N 1 (atOf [true, false, true, false, false] Try.f23) st K) M s K
noncomputable def bk_heC2 {R : Type} (N M : Nat) (K : X → St → Option R) : X → St → Option R := fun x st => match x with | .norm => tidyK 1 (kp_heC2.map (·.1)) st fun st => lp_heC2 N M st K | x => tidyK 1 (kp_heC2.map (·.2)) st fun st => K x st
noncomputable def kt_heC2 {R : Type} (N : Nat) (K : X → St → Option R) : X → St → Option R := kBlkR 0 (kSeqR tab_heC an_heC N 1 (atOf [true, true] Try.f23) (K))
def en_heC2_0 (k1 : Int) (rw0 : Bool) (l0 : List (Nat × Nat)) : St := ⟨(.any :: .int .i64 k1 :: .any :: .any :: .int .i64 (-1) :: (anys 19 [])), [.at rw0 (.cx .f32 l0)]⟩
def en_heC2_1 (k1 : Int) (rw0 : Bool) (l0 : List (Nat × Nat)) : St := ⟨(.any :: .int .i64 k1 :: (anys 22 [])), [.at rw0 (.cx .f32 l0)]⟩
theorem run_heC (N : Nat) (n : Nat) (k : Int) (rw : Bool) (l : List (Nat × Nat)) : run ty tab_heC an_heC N Try.f23 [.sl 0 0 n, .int .i64 k] [.at rw (.cx .f32 l)]
    = lp_heC2 N N (st_heC2 n k 0 rw l) (kt_heC2 N (kEnd Try.f23 1)) := by
  kernel_rfl
theorem step_heC2 {R : Type} (N M : Nat) (K : X → St → Option R) (a0n : Nat) (k1 : Int) (i5 : Int) (rw0 : Bool) (l0 : List (Nat × Nat)) : lp_heC2 N (M + 1) (st_heC2 a0n k1 i5 rw0 l0) K
    = (match decide ((i5 : Int) < ((a0n : Nat) : Int)) with | true => (match decide (0 ≤ (i5 : Int) ∧ (i5 : Int) < ((a0n : Nat) : Int)) with | true => (match l0[0 + (i5).toNat * 1]? with | some (e1, e2) => (match fconv .f64 (floatOfInt .f64 k1) .f32 with | some c3 => (match !(((eqB e1 c3)) && ((eqB e2 1065353216))) with | true => K .ret (en_heC2_0 k1 rw0 l0) | false => lp_heC2 N M (st_heC2 a0n (IntKind.i64.wrap (k1 + 1)) (IntKind.i64.wrap (i5 + 1)) rw0 l0) K) | none => none) | none => none) | false => none) | false => K (.exit 0) (en_heC2_1 k1 rw0 l0)) := by
  kernel_rfl
theorem end_heC2_0 (N : Nat) (k1 : Int) (rw0 : Bool) (l0 : List (Nat × Nat)) : kt_heC2 N (kEnd Try.f23 1) .ret (en_heC2_0 k1 rw0 l0)
    = some (.int .i64 (-1), [.at rw0 (.cx .f32 l0)]) := by
  kernel_rfl
theorem end_heC2_1 (N : Nat) (k1 : Int) (rw0 : Bool) (l0 : List (Nat × Nat)) : kt_heC2 N (kEnd Try.f23 1) (.exit 0) (en_heC2_1 k1 rw0 l0)
    = some (.int .i64 k1, [.at rw0 (.cx .f32 l0)]) := by
  kernel_rfl

theorem ok_heC : FnT Try.prog 23 gHeldC := by
  refine fnT tabok_heC Try.func23 rfl rfl an_heC fun vs h v h' e => ?_
  unfold gHeldC at e
  split at e
  · rename_i n k rw l
    obtain ⟨hd, e⟩ := T.pre_inv e
    obtain ⟨rfl, rfl⟩ := T.ret_inv e
    obtain ⟨rfl, hb, hk, hk'⟩ := of_decide_eq_true hd
    refine ⟨n + 1, Eq.trans (run_heC _ _ _ _ _) ?_⟩
    have hc := count_up n (fun i (s : Int) => s + 1) (fun M i s => lp_heC2 (n + 1) M (st_heC2 n s (i : Int) rw (marksC k n)) (kt_heC2 (n + 1) (kEnd Try.f23 1))) (fun s => some (.int .i64 s, [.at rw (.cx .f32 (marksC k n))])) (fun i s => s = k + (i : Int))
      (fun M i s hi hv => ?_) (fun M s hv => ?_) n 0 k (by omega) (by simp) 0
    · have hr : ∀ m i (q : Int), rounds (fun (i : Nat) (s : Int) => s + 1) m i q = q + (m : Int) := by
        intro m
        induction m with
        | zero => intro i q; simp [rounds]
        | succ m ih => intro i q; show rounds _ m _ _ = _; rw [ih]; dsimp only; omega
      rw [hr, show n + 1 + 0 = n + 1 by omega] at hc
      exact hc
    · refine ⟨?_, by rw [hv]; omega⟩
      obtain ⟨hm, hm2⟩ := mkcN_ok (k := s) (by rw [hv]; omega) (by rw [hv]; omega)
      have h1 : eqB 1065353216 1065353216 = true := by decide +kernel
      have hg : (marksC k n)[i]? = some (mkcN s, 1065353216) := by rw [marksC_get hi, hv]
      simp only [step_heC2, dlt hi, din hi, ix, hg, hm, hm2, h1, wr (show i < 2147483648 by omega), wrap_s (show 0 ≤ s + 1 by rw [hv]; omega) (by rw [hv]; omega), Bool.and_self, Bool.not_true]
    · simp only [step_heC2, dge (Nat.le_refl _), end_heC2_1]
  · obtain ⟨rfl, rfl⟩ := T.ret_inv e
    exact ⟨1, by kernel_rfl⟩
  · exact (T.no_inv e).elim
end Go.Proofs.Ytbhfjdlhhjeknaa.Ab
