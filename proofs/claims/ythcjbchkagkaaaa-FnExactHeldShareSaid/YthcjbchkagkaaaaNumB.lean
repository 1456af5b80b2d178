/- The small checks of numbers: what they compute. Only lemmas. -/
import Derived.Test.YthcjbchkagkaaaaFl

namespace Go.Proofs.Ythcjbchkagkaaaa.Ab
set_option linter.unusedVariables false
set_option linter.unusedSimpArgs false
open Go

def posB (x : Nat) : Bool := finB x && gtB x 0
def nonB (x : Nat) : Bool := finB x && (gtB x 0 || eqB x 0)
def gF1 (p : Nat → Bool) : G := fun vs h => match vs, h with | [.fl .f32 x], [] => some (.bool (p x), []) | _, _ => none

theorem ok_l01Finite : FnOk Try.prog 76 (gF1 finB) := by
  refine fnOk tab_nil Try.func76 rfl rfl ann0 fun vs h v h' e => ⟨0, ?_⟩
  unfold gF1 at e
  split at e
  · cases e
    kernel_rfl
  · cases e
theorem ok_IsFinite : FnOk Try.prog 60 (gF1 finB) := by
  refine fnOk tab_nil Try.func60 rfl rfl ann0 fun vs h v h' e => ⟨0, ?_⟩
  unfold gF1 at e
  split at e
  · cases e
    kernel_rfl
  · cases e
theorem ok_l02Above : FnOk Try.prog 58 (gF1 posB) := by
  refine fnOk (tab_cons (k := 76) ok_l01Finite tab_nil) Try.func58 rfl rfl ann0 fun vs h v h' e => ⟨0, ?_⟩
  unfold gF1 at e
  split at e
  · cases e
    rename_i x
    refine Eq.trans (b := match finB x with | true => some (.bool (gtB x 0), []) | false => some (.bool false, [])) (by kernel_rfl) ?_
    unfold posB
    cases finB x <;> rfl
  · cases e
theorem ok_l02Least : FnOk Try.prog 57 (gF1 nonB) := by
  refine fnOk (tab_cons (k := 76) ok_l01Finite tab_nil) Try.func57 rfl rfl ann0 fun vs h v h' e => ⟨0, ?_⟩
  unfold gF1 at e
  split at e
  · cases e
    rename_i x
    refine Eq.trans (b := match finB x with | true => some (.bool (gtB x 0 || eqB x 0), []) | false => some (.bool false, [])) (by kernel_rfl) ?_
    unfold nonB
    cases finB x <;> rfl
  · cases e
theorem ok_l03Least : FnOk Try.prog 95 (gF1 nonB) := by
  refine fnOk (tab_cons (k := 76) ok_l01Finite tab_nil) Try.func95 rfl rfl ann0 fun vs h v h' e => ⟨0, ?_⟩
  unfold gF1 at e
  split at e
  · cases e
    rename_i x
    refine Eq.trans (b := match finB x with | true => some (.bool (gtB x 0 || eqB x 0), []) | false => some (.bool false, [])) (by kernel_rfl) ?_
    unfold nonB
    cases finB x <;> rfl
  · cases e
theorem not_pos (x : Nat) : (match !finB x with | true => true | false => ltB x 0 || eqB x 0) = !posB x := by
  unfold posB
  cases h : finB x with
  | false => rfl
  | true =>
    obtain ⟨o, ho⟩ := fin_cmp h
    unfold ltB eqB gtB
    rw [ho]
    cases o <;> rfl
theorem not_non (x : Nat) : (match !finB x with | true => true | false => ltB x 0) = !nonB x := by
  unfold nonB
  cases h : finB x with
  | false => rfl
  | true =>
    obtain ⟨o, ho⟩ := fin_cmp h
    unfold ltB eqB gtB
    rw [ho]
    cases o <;> rfl
def ps : List (FuncId × (Nat → Bool)) := [(88, fun x => !finB x), (89, fun x => !posB x), (99, fun x => !nonB x)]
theorem ok_fin1 : FnOk Try.prog 88 (gF1 fun x => !finB x) := by
  refine fnOk (tab_cons (k := 60) ok_IsFinite tab_nil) Try.func88 rfl rfl ann0 fun vs h v h' e => ⟨0, ?_⟩
  unfold gF1 at e
  split at e
  · cases e
    kernel_rfl
  · cases e
theorem ok_pos1 : FnOk Try.prog 89 (gF1 fun x => !posB x) := by
  refine fnOk (tab_cons (k := 60) ok_IsFinite tab_nil) Try.func89 rfl rfl ann0 fun vs h v h' e => ⟨0, ?_⟩
  unfold gF1 at e
  split at e
  · cases e
    rename_i x
    refine Eq.trans (b := match !finB x with | true => some (.bool true, []) | false => some (.bool (ltB x 0 || eqB x 0), [])) (by kernel_rfl) ?_
    show _ = some (V.bool (!posB x), [])
    rw [← not_pos]
    cases finB x <;> rfl
  · cases e
theorem ok_rot1 : FnOk Try.prog 99 (gF1 fun x => !nonB x) := by
  refine fnOk (tab_cons (k := 60) ok_IsFinite tab_nil) Try.func99 rfl rfl ann0 fun vs h v h' e => ⟨0, ?_⟩
  unfold gF1 at e
  split at e
  · cases e
    rename_i x
    refine Eq.trans (b := match !finB x with | true => some (.bool true, []) | false => some (.bool (ltB x 0), [])) (by kernel_rfl) ?_
    show _ = some (V.bool (!nonB x), [])
    rw [← not_non]
    cases finB x <;> rfl
  · cases e

/-- The loop whose first region is 'r'. -/
def loopIn (r : Nat) : Code → Option Code
  | .seq a b => match loopIn r a with | some c => some c | none => loopIn r b
  | .block _ b => loopIn r b
  | .scope b => loopIn r b
  | .cond _ a b => match loopIn r a with | some c => some c | none => loopIn r b
  | .loop b => match firstRegion b with
    | some j => match decide (j = r) with
      | true => some b
      | false => loopIn r b
    | none => loopIn r b
  | _ => none
def loopOf (r : Nat) (fn : Func) : Code :=
  match fn.body with
  | some c => match loopIn r c with
    | some b => b
    | none => .skip
  | none => .skip

def annIdx : Ann := ⟨fun r => if r = 2 then some ([0, 1, 4, 7, 8], [4]) else none, fun _ _ => .quiet⟩
def tabIdx : Fns := tab [(88, gF1 fun x => !finB x), (89, gF1 fun x => !posB x), (99, gF1 fun x => !nonB x)]
def stIdx (n : Nat) (f : FuncId) (i : Int) (rw : Bool) (l : List Nat) : St :=
  ⟨[.sl 0 0 n, .fn f, .any, .any, .int .i64 0, .any, .any, .int .i64 n, .int .i64 i, .any, .any, .any, .any, .any, .any, .any, .any, .any, .any], [.at rw (.fl .f32 l)]⟩
/-- The first place where 'p' holds. -/
def firstOf (p : Nat → Bool) : List Nat → Nat → Option Nat
  | [], _ => none
  | x :: l, i => match p x with
    | true => some i
    | false => firstOf p l (i + 1)

theorem wrap_s {n : Int} (h0 : 0 ≤ n) (h1 : n < 9223372036854775808) : IntKind.i64.wrap n = n := by
  simp only [IntKind.wrap, IntKind.signed, IntKind.bits]
  first | omega | (simp; omega)

theorem idx_plain {R : Type} (p : Nat → Bool) (l : List Nat) (n : Nat) (hn : l.length = n) (hb : n < 2147483648) (L : Nat → Int → Option R) (A : Int → Option R) (Z : Option R)
    (hs : ∀ M i, L (M + 1) i = match decide (i < (n : Int)) with
      | true => match decide (0 ≤ i ∧ i < (n : Int)) with
        | true => match l[0 + i.toNat * 1]? with
          | some x => match p x with
            | true => A i
            | false => L M (IntKind.i64.wrap (i + 1))
          | none => none
        | false => none
      | false => Z) :
    ∀ suf pre, l = pre ++ suf → ∀ M, L (suf.length + 1 + M) pre.length = match firstOf p suf pre.length with | some j => A j | none => Z := by
  intro suf
  induction suf with
  | nil =>
    intro pre hl M
    have hlen : pre.length = n := by rw [← hn, hl]; simp
    rw [show ([] : List Nat).length + 1 + M = M + 1 by simp; omega, hs]
    rw [show decide ((pre.length : Int) < (n : Int)) = false by simp; omega]
    rfl
  | cons x suf ih =>
    intro pre hl M
    have hlen : pre.length + suf.length + 1 = n := by rw [← hn, hl]; simp; omega
    rw [show (x :: suf).length + 1 + M = (suf.length + 1 + M) + 1 by simp; omega, hs]
    rw [show decide ((pre.length : Int) < (n : Int)) = true by simp; omega, show decide (0 ≤ (pre.length : Int) ∧ (pre.length : Int) < (n : Int)) = true by simp; omega]
    have hget : l[0 + (pre.length : Int).toNat * 1]? = some x := by
      rw [show 0 + (pre.length : Int).toNat * 1 = pre.length by omega, hl]
      simp
    simp only [hget, firstOf]
    cases p x with
    | true => rfl
    | false =>
      have := ih (pre ++ [x]) (by rw [hl]; simp) M
      rw [wrap_s (by omega) (by omega)]
      have e : ((pre.length : Int) + 1) = (((pre ++ [x]).length : Nat) : Int) := by simp
      rw [e]
      rw [this]
      simp

abbrev kpIdx : Option (List Nat × List Nat) := some ([0, 1, 4, 7, 8], [4])
theorem stepFin {R : Type} (M N n : Nat) (i : Int) (rw : Bool) (l : List Nat) (K : X → St → Option R) :
    loopH 1 kpIdx (fun st K => exec ty tabIdx annIdx N 1 (loopOf 2 Try.f106) st K) (M + 1) (stIdx n 88 i rw l) K
    = match decide (i < (n : Int)) with
      | true => match decide (0 ≤ i ∧ i < (n : Int)) with
        | true => match l[0 + i.toNat * 1]? with
          | some x => match !finB x with
            | true => K .ret ⟨[.any, .any, .any, .any, .int .i64 i, .any, .any, .any, .any, .any, .any, .any, .any, .any, .any, .any, .any, .any, .any], [.at rw (.fl .f32 l)]⟩
            | false => loopH 1 kpIdx (fun st K => exec ty tabIdx annIdx N 1 (loopOf 2 Try.f106) st K) M (stIdx n 88 (IntKind.i64.wrap (i + 1)) rw l) K
          | none => none
        | false => none
      | false => K (.exit 0) ⟨[.any, .any, .any, .any, .int .i64 0, .any, .any, .any, .any, .any, .any, .any, .any, .any, .any, .any, .any, .any, .any], [.at rw (.fl .f32 l)]⟩ := by
  kernel_rfl
theorem stepPos {R : Type} (M N n : Nat) (i : Int) (rw : Bool) (l : List Nat) (K : X → St → Option R) :
    loopH 1 kpIdx (fun st K => exec ty tabIdx annIdx N 1 (loopOf 2 Try.f106) st K) (M + 1) (stIdx n 89 i rw l) K
    = match decide (i < (n : Int)) with
      | true => match decide (0 ≤ i ∧ i < (n : Int)) with
        | true => match l[0 + i.toNat * 1]? with
          | some x => match !posB x with
            | true => K .ret ⟨[.any, .any, .any, .any, .int .i64 i, .any, .any, .any, .any, .any, .any, .any, .any, .any, .any, .any, .any, .any, .any], [.at rw (.fl .f32 l)]⟩
            | false => loopH 1 kpIdx (fun st K => exec ty tabIdx annIdx N 1 (loopOf 2 Try.f106) st K) M (stIdx n 89 (IntKind.i64.wrap (i + 1)) rw l) K
          | none => none
        | false => none
      | false => K (.exit 0) ⟨[.any, .any, .any, .any, .int .i64 0, .any, .any, .any, .any, .any, .any, .any, .any, .any, .any, .any, .any, .any, .any], [.at rw (.fl .f32 l)]⟩ := by
  kernel_rfl
theorem stepRot {R : Type} (M N n : Nat) (i : Int) (rw : Bool) (l : List Nat) (K : X → St → Option R) :
    loopH 1 kpIdx (fun st K => exec ty tabIdx annIdx N 1 (loopOf 2 Try.f106) st K) (M + 1) (stIdx n 99 i rw l) K
    = match decide (i < (n : Int)) with
      | true => match decide (0 ≤ i ∧ i < (n : Int)) with
        | true => match l[0 + i.toNat * 1]? with
          | some x => match !nonB x with
            | true => K .ret ⟨[.any, .any, .any, .any, .int .i64 i, .any, .any, .any, .any, .any, .any, .any, .any, .any, .any, .any, .any, .any, .any], [.at rw (.fl .f32 l)]⟩
            | false => loopH 1 kpIdx (fun st K => exec ty tabIdx annIdx N 1 (loopOf 2 Try.f106) st K) M (stIdx n 99 (IntKind.i64.wrap (i + 1)) rw l) K
          | none => none
        | false => none
      | false => K (.exit 0) ⟨[.any, .any, .any, .any, .int .i64 0, .any, .any, .any, .any, .any, .any, .any, .any, .any, .any, .any, .any, .any, .any], [.at rw (.fl .f32 l)]⟩ := by
  kernel_rfl
def pOf (f : FuncId) : Option (Nat → Bool) :=
  if f = 88 then some fun x => !finB x else if f = 89 then some fun x => !posB x else if f = 99 then some fun x => !nonB x else none
def ixOf (p : Nat → Bool) (l : List Nat) : Int := match firstOf p l 0 with | some j => (j : Int) | none => -1
def gIdx : G := fun vs h => match vs, h with
  | [.sl 0 0 n, .fn f], [.at rw (.fl .f32 l)] => match decide (l.length = n ∧ n < 2147483648) with
    | true => match pOf f with
      | some p => some (.int .i64 (ixOf p l), [.at rw (.fl .f32 l)])
      | none => none
    | false => none
  | _, _ => none
theorem run_idx (f : FuncId) (n : Nat) (rw : Bool) (l : List Nat) (hn : l.length = n) (hb : n < 2147483648) (p : Nat → Bool)
    (hs : ∀ (N : Nat) (K : X → St → Option (V × H)) M i, loopH 1 kpIdx (fun st K => exec ty tabIdx annIdx N 1 (loopOf 2 Try.f106) st K) (M + 1) (stIdx n f i rw l) K
      = match decide (i < (n : Int)) with
      | true => match decide (0 ≤ i ∧ i < (n : Int)) with
        | true => match l[0 + i.toNat * 1]? with
          | some x => match p x with
            | true => K .ret ⟨[.any, .any, .any, .any, .int .i64 i, .any, .any, .any, .any, .any, .any, .any, .any, .any, .any, .any, .any, .any, .any], [.at rw (.fl .f32 l)]⟩
            | false => loopH 1 kpIdx (fun st K => exec ty tabIdx annIdx N 1 (loopOf 2 Try.f106) st K) M (stIdx n f (IntKind.i64.wrap (i + 1)) rw l) K
          | none => none
        | false => none
      | false => K (.exit 0) ⟨[.any, .any, .any, .any, .int .i64 0, .any, .any, .any, .any, .any, .any, .any, .any, .any, .any, .any, .any, .any, .any], [.at rw (.fl .f32 l)]⟩) :
    ∃ N, run ty tabIdx annIdx N Try.f106 [.sl 0 0 n, .fn f] [.at rw (.fl .f32 l)] = some (.int .i64 (ixOf p l), [.at rw (.fl .f32 l)]) := by
  obtain ⟨N, hN⟩ : ∃ N, N = n + 1 := ⟨_, rfl⟩
  refine ⟨N, ?_⟩
  conv => lhs; whnf
  have hp := fun (K : X → St → Option (V × H)) => idx_plain p l n hn hb (fun M i => loopH 1 kpIdx (fun st K => exec ty tabIdx annIdx N 1 (loopOf 2 Try.f106) st K) M (stIdx n f i rw l) K) _ _ (hs N K) l [] rfl 0
  rw [show l.length + 1 + 0 = N by omega] at hp
  refine Eq.trans (hp _) ?_
  unfold ixOf
  simp only [List.length_nil]
  cases firstOf p l 0 <;> kernel_rfl
theorem gIdx_inv {vs : List V} {h : H} {v : V} {h' : H} (e : gIdx vs h = some (v, h')) : ∃ n f rw l p, vs = [.sl 0 0 n, .fn f] ∧ h = [.at rw (.fl .f32 l)] ∧ (l.length = n ∧ n < 2147483648) ∧ pOf f = some p ∧ v = .int .i64 (ixOf p l) ∧ h' = [.at rw (.fl .f32 l)] := by
  unfold gIdx at e
  split at e
  · split at e
    · rename_i hd
      split at e
      · rename_i hp
        cases e
        exact ⟨_, _, _, _, _, rfl, rfl, of_decide_eq_true hd, hp, rfl, rfl⟩
      · cases e
    · cases e
  · cases e
theorem ok_Idx : FnOk Try.prog 106 gIdx := by
  refine fnOk (tab_cons (k := 88) ok_fin1 (tab_cons (k := 89) ok_pos1 (tab_cons (k := 99) ok_rot1 tab_nil))) Try.func106 rfl rfl annIdx fun vs h v h' e => ?_
  obtain ⟨n, f, rw, l, p, rfl, rfl, hd, hp, rfl, rfl⟩ := gIdx_inv e
  clear e
  by_cases h1 : f = 88
  · subst h1
    cases hp
    exact run_idx _ n rw l hd.1 hd.2 _ fun N K M i => stepFin M N n i rw l K
  · by_cases h2 : f = 89
    · subst h2
      cases hp
      exact run_idx _ n rw l hd.1 hd.2 _ fun N K M i => stepPos M N n i rw l K
    · by_cases h3 : f = 99
      · subst h3
        cases hp
        exact run_idx _ n rw l hd.1 hd.2 _ fun N K M i => stepRot M N n i rw l K
      · unfold pOf at hp
        rw [if_neg h1, if_neg h2, if_neg h3] at hp
        cases hp

/-! ### 'slices.ContainsFunc' and the three that call it -/
def gCon : G := fun vs h => match vs, h with
  | [.sl 0 0 n, .fn f], [.at rw (.fl .f32 l)] => match decide (l.length = n ∧ n < 2147483648) with
    | true => match pOf f with
      | some p => some (.bool (decide (ixOf p l ≥ 0)), [.at rw (.fl .f32 l)])
      | none => none
    | false => none
  | _, _ => none
theorem gIdx_eq {n : Nat} {f : FuncId} {rw : Bool} {l : List Nat} {p : Nat → Bool} (hd : l.length = n ∧ n < 2147483648) (hp : pOf f = some p) : gIdx [.sl 0 0 n, .fn f] [.at rw (.fl .f32 l)] = some (.int .i64 (ixOf p l), [.at rw (.fl .f32 l)]) := by
  simp only [gIdx, decide_eq_true hd, hp]
theorem gCon_eq {n : Nat} {f : FuncId} {rw : Bool} {l : List Nat} {p : Nat → Bool} (hd : l.length = n ∧ n < 2147483648) (hp : pOf f = some p) : gCon [.sl 0 0 n, .fn f] [.at rw (.fl .f32 l)] = some (.bool (decide (ixOf p l ≥ 0)), [.at rw (.fl .f32 l)]) := by
  simp only [gCon, decide_eq_true hd, hp]
theorem gCon_inv {vs : List V} {h : H} {v : V} {h' : H} (e : gCon vs h = some (v, h')) : ∃ n f rw l p, vs = [.sl 0 0 n, .fn f] ∧ h = [.at rw (.fl .f32 l)] ∧ (l.length = n ∧ n < 2147483648) ∧ pOf f = some p ∧ v = .bool (decide (ixOf p l ≥ 0)) ∧ h' = [.at rw (.fl .f32 l)] := by
  unfold gCon at e
  split at e
  · split at e
    · rename_i hd
      split at e
      · rename_i hp
        cases e
        exact ⟨_, _, _, _, _, rfl, rfl, of_decide_eq_true hd, hp, rfl, rfl⟩
      · cases e
    · cases e
  · cases e
theorem ok_Con : FnOk Try.prog 87 gCon := by
  refine fnOk (tab_cons (k := 106) ok_Idx tab_nil) Try.func87 rfl rfl ann0 fun vs h v h' e => ⟨0, ?_⟩
  obtain ⟨n, f, rw, l, p, rfl, rfl, hd, hp, rfl, rfl⟩ := gCon_inv e
  clear e
  have h : tab [(106, gIdx)] 106 [.sl 0 0 n, .fn f] [.at rw (.fl .f32 l)] = _ := gIdx_eq (rw := rw) hd hp
  conv => lhs; whnf
  simp only [h]
  kernel_rfl
/-- All of a list. -/
def gAll (p : Nat → Bool) : G := fun vs h => match vs, h with
  | [.sl 0 0 n], [.at rw (.fl .f32 l)] => match decide (l.length = n ∧ n < 2147483648) with
    | true => some (.bool (l.all p), [.at rw (.fl .f32 l)])
    | false => none
  | _, _ => none
theorem first_all (p : Nat → Bool) : ∀ (l : List Nat) (i : Nat), (!(decide ((match firstOf (fun x => !p x) l i with | some j => (j : Int) | none => -1) ≥ 0))) = l.all p
  | [], i => rfl
  | x :: l, i => by
    unfold firstOf
    simp only [List.all_cons]
    cases p x with
    | true => simp only [Bool.not_true, Bool.true_and]; exact first_all p l (i + 1)
    | false => simp
theorem ix_all (p : Nat → Bool) (l : List Nat) : (!(decide (ixOf (fun x => !p x) l ≥ 0))) = l.all p := first_all p l 0
theorem gAll_inv {q : Nat → Bool} {vs : List V} {h : H} {v : V} {h' : H} (e : gAll q vs h = some (v, h')) : ∃ n rw l, vs = [.sl 0 0 n] ∧ h = [.at rw (.fl .f32 l)] ∧ (l.length = n ∧ n < 2147483648) ∧ v = .bool (l.all q) ∧ h' = [.at rw (.fl .f32 l)] := by
  unfold gAll at e
  split at e
  · split at e
    · rename_i hd
      cases e
      exact ⟨_, _, _, rfl, rfl, of_decide_eq_true hd, rfl, rfl⟩
    · cases e
  · cases e
theorem gAll_eq {q : Nat → Bool} {n : Nat} {rw : Bool} {l : List Nat} (hd : l.length = n ∧ n < 2147483648) : gAll q [.sl 0 0 n] [.at rw (.fl .f32 l)] = some (.bool (l.all q), [.at rw (.fl .f32 l)]) := by
  simp only [gAll, decide_eq_true hd]
theorem ok_areFinite : FnOk Try.prog 54 (gAll finB) := by
  refine fnOk (tab_cons (k := 87) ok_Con tab_nil) Try.func54 rfl rfl ann0 fun vs h v h' e => ⟨0, ?_⟩
  obtain ⟨n, rw, l, rfl, rfl, hd, rfl, rfl⟩ := gAll_inv e
  clear e
  have h : tab [(87, gCon)] 87 [.sl 0 0 n, .fn 88] [.at rw (.fl .f32 l)] = some (.bool (decide (ixOf (fun x => !finB x) l ≥ 0)), [.at rw (.fl .f32 l)]) := gCon_eq (f := 88) (rw := rw) (p := fun x => !finB x) hd (by kernel_rfl)
  rw [← ix_all]
  conv => lhs; whnf
  simp only [h]
  kernel_rfl
theorem ok_arePositive : FnOk Try.prog 55 (gAll posB) := by
  refine fnOk (tab_cons (k := 87) ok_Con tab_nil) Try.func55 rfl rfl ann0 fun vs h v h' e => ⟨0, ?_⟩
  obtain ⟨n, rw, l, rfl, rfl, hd, rfl, rfl⟩ := gAll_inv e
  clear e
  have h : tab [(87, gCon)] 87 [.sl 0 0 n, .fn 89] [.at rw (.fl .f32 l)] = some (.bool (decide (ixOf (fun x => !posB x) l ≥ 0)), [.at rw (.fl .f32 l)]) := gCon_eq (f := 89) (rw := rw) (p := fun x => !posB x) hd (by kernel_rfl)
  rw [← ix_all]
  conv => lhs; whnf
  simp only [h]
  kernel_rfl
theorem ok_areRotor : FnOk Try.prog 73 (gAll nonB) := by
  refine fnOk (tab_cons (k := 87) ok_Con tab_nil) Try.func73 rfl rfl ann0 fun vs h v h' e => ⟨0, ?_⟩
  obtain ⟨n, rw, l, rfl, rfl, hd, rfl, rfl⟩ := gAll_inv e
  clear e
  have h : tab [(87, gCon)] 87 [.sl 0 0 n, .fn 99] [.at rw (.fl .f32 l)] = some (.bool (decide (ixOf (fun x => !nonB x) l ≥ 0)), [.at rw (.fl .f32 l)]) := gCon_eq (f := 99) (rw := rw) (p := fun x => !nonB x) hd (by kernel_rfl)
  rw [← ix_all]
  conv => lhs; whnf
  simp only [h]
  kernel_rfl
end Go.Proofs.Ythcjbchkagkaaaa.Ab
