/- The small checks of whole numbers in a list: what they compute. Only lemmas. -/
import Derived.Test.YtjjdfeemkkeokaaNum
namespace Go.Proofs.Ytjjdfeemkkeokaa.Ab
set_option linter.unusedVariables false
set_option linter.unusedSimpArgs false
open Go

def turB (a : Int) : Bool := inB a 0 6
def gI1 (p : Int → Bool) : G := fun vs h => match vs, h with | [.int .i64 x], [] => some (.bool (p x), []) | _, _ => none
theorem ok_tur1 : FnOk Try.prog 82 (gI1 fun x => !turB x) := by
  refine fnOk (tab_cons (k := 48) ok_within tab_nil) Try.func82 rfl rfl ann0 fun vs h v h' e => ⟨0, ?_⟩
  unfold gI1 at e
  split at e
  · cases e
    kernel_rfl
  · cases e
def annIdxI : Ann := ⟨fun r => if r = 2 then some ([0, 1, 4, 7, 8], [4]) else none, fun _ _ => .quiet⟩
def tabIdxI : Fns := tab [(82, gI1 fun x => !turB x)]
def stIdxI (n : Nat) (f : FuncId) (i : Int) (rw : Bool) (l : List Int) : St :=
  ⟨[.sl 0 0 n, .fn f, .any, .any, .int .i64 0, .any, .any, .int .i64 n, .int .i64 i, .any, .any, .any, .any, .any, .any, .any, .any, .any, .any], [.at rw (.int .i64 l)]⟩
/-- The first place where 'p' holds. -/
def firstOfI (p : Int → Bool) : List Int → Nat → Option Nat
  | [], _ => none
  | x :: l, i => match p x with
    | true => some i
    | false => firstOfI p l (i + 1)

theorem idx_plainI {R : Type} (p : Int → Bool) (l : List Int) (n : Nat) (hn : l.length = n) (hb : n < 2147483648) (L : Nat → Int → Option R) (A : Int → Option R) (Z : Option R)
    (hs : ∀ M i, L (M + 1) i = match decide (i < (n : Int)) with
      | true => match decide (0 ≤ i ∧ i < (n : Int)) with
        | true => match l[0 + i.toNat * 1]? with
          | some x => match p x with
            | true => A i
            | false => L M (IntKind.i64.wrap (i + 1))
          | none => none
        | false => none
      | false => Z) :
    ∀ suf pre, l = pre ++ suf → ∀ M, L (suf.length + 1 + M) pre.length = match firstOfI p suf pre.length with | some j => A j | none => Z := by
  intro suf
  induction suf with
  | nil =>
    intro pre hl M
    have hlen : pre.length = n := by rw [← hn, hl]; simp
    rw [show ([] : List Int).length + 1 + M = M + 1 by simp; omega, hs]
    rw [show decide ((pre.length : Int) < (n : Int)) = false by simp; omega]
    rfl
  | cons x suf ih =>
    intro pre hl M
    have hlen : pre.length + suf.length + 1 = n := by rw [← hn, hl]; simp; omega
    rw [show (x :: suf).length + 1 + M = (suf.length + 1 + M) + 1 by simp; omega, hs]
    rw [show decide ((pre.length : Int) < (n : Int)) = true by simp; omega, show decide (0 ≤ (pre.length : Int) ∧ (pre.length : Int) < (n : Int)) = true by simp; omega]
    have hget : l[0 + (pre.length : Int).toNat * 1]? = some x := by
      rw [show 0 + (pre.length : Int).toNat * 1 = pre.length by omega, hl]
      simp
    simp only [hget, firstOfI]
    cases p x with
    | true => rfl
    | false =>
      have := ih (pre ++ [x]) (by rw [hl]; simp) M
      rw [wrap_s (by omega) (by omega)]
      have e : ((pre.length : Int) + 1) = (((pre ++ [x]).length : Nat) : Int) := by simp
      rw [e]
      rw [this]
      simp

abbrev kpIdxI : Option (List Nat × List Nat) := some ([0, 1, 4, 7, 8], [4])
theorem stepFinI {R : Type} (M N n : Nat) (i : Int) (rw : Bool) (l : List Int) (K : X → St → Option R) :
    loopH 1 kpIdxI (fun st K => exec ty tabIdxI annIdxI N 1 (loopOf 2 Try.f89) st K) (M + 1) (stIdxI n 82 i rw l) K
    = match decide (i < (n : Int)) with
      | true => match decide (0 ≤ i ∧ i < (n : Int)) with
        | true => match l[0 + i.toNat * 1]? with
          | some x => match !turB x with
            | true => K .ret ⟨[.any, .any, .any, .any, .int .i64 i, .any, .any, .any, .any, .any, .any, .any, .any, .any, .any, .any, .any, .any, .any], [.at rw (.int .i64 l)]⟩
            | false => loopH 1 kpIdxI (fun st K => exec ty tabIdxI annIdxI N 1 (loopOf 2 Try.f89) st K) M (stIdxI n 82 (IntKind.i64.wrap (i + 1)) rw l) K
          | none => none
        | false => none
      | false => K (.exit 0) ⟨[.any, .any, .any, .any, .int .i64 0, .any, .any, .any, .any, .any, .any, .any, .any, .any, .any, .any, .any, .any, .any], [.at rw (.int .i64 l)]⟩ := by
  kernel_rfl
def pOfI (f : FuncId) : Option (Int → Bool) :=
  if f = 82 then some fun x => !turB x else none
def ixOfI (p : Int → Bool) (l : List Int) : Int := match firstOfI p l 0 with | some j => (j : Int) | none => -1
def gIdxI : G := fun vs h => match vs, h with
  | [.sl 0 0 n, .fn f], [.at rw (.int .i64 l)] => match decide (l.length = n ∧ n < 2147483648) with
    | true => match pOfI f with
      | some p => some (.int .i64 (ixOfI p l), [.at rw (.int .i64 l)])
      | none => none
    | false => none
  | _, _ => none
theorem run_idxI (f : FuncId) (n : Nat) (rw : Bool) (l : List Int) (hn : l.length = n) (hb : n < 2147483648) (p : Int → Bool)
    (hs : ∀ (N : Nat) (K : X → St → Option (V × H)) M i, loopH 1 kpIdxI (fun st K => exec ty tabIdxI annIdxI N 1 (loopOf 2 Try.f89) st K) (M + 1) (stIdxI n f i rw l) K
      = match decide (i < (n : Int)) with
      | true => match decide (0 ≤ i ∧ i < (n : Int)) with
        | true => match l[0 + i.toNat * 1]? with
          | some x => match p x with
            | true => K .ret ⟨[.any, .any, .any, .any, .int .i64 i, .any, .any, .any, .any, .any, .any, .any, .any, .any, .any, .any, .any, .any, .any], [.at rw (.int .i64 l)]⟩
            | false => loopH 1 kpIdxI (fun st K => exec ty tabIdxI annIdxI N 1 (loopOf 2 Try.f89) st K) M (stIdxI n f (IntKind.i64.wrap (i + 1)) rw l) K
          | none => none
        | false => none
      | false => K (.exit 0) ⟨[.any, .any, .any, .any, .int .i64 0, .any, .any, .any, .any, .any, .any, .any, .any, .any, .any, .any, .any, .any, .any], [.at rw (.int .i64 l)]⟩) :
    ∃ N, run ty tabIdxI annIdxI N Try.f89 [.sl 0 0 n, .fn f] [.at rw (.int .i64 l)] = some (.int .i64 (ixOfI p l), [.at rw (.int .i64 l)]) := by
  obtain ⟨N, hN⟩ : ∃ N, N = n + 1 := ⟨_, rfl⟩
  refine ⟨N, ?_⟩
  conv => lhs; whnf
  have hp := fun (K : X → St → Option (V × H)) => idx_plainI p l n hn hb (fun M i => loopH 1 kpIdxI (fun st K => exec ty tabIdxI annIdxI N 1 (loopOf 2 Try.f89) st K) M (stIdxI n f i rw l) K) _ _ (hs N K) l [] rfl 0
  rw [show l.length + 1 + 0 = N by omega] at hp
  refine Eq.trans (hp _) ?_
  unfold ixOfI
  simp only [List.length_nil]
  cases firstOfI p l 0 <;> kernel_rfl
theorem gIdx_invI {vs : List V} {h : H} {v : V} {h' : H} (e : gIdxI vs h = some (v, h')) : ∃ n f rw l p, vs = [.sl 0 0 n, .fn f] ∧ h = [.at rw (.int .i64 l)] ∧ (l.length = n ∧ n < 2147483648) ∧ pOfI f = some p ∧ v = .int .i64 (ixOfI p l) ∧ h' = [.at rw (.int .i64 l)] := by
  unfold gIdxI at e
  split at e
  · split at e
    · rename_i hd
      split at e
      · rename_i hp
        cases e
        exact ⟨_, _, _, _, _, rfl, rfl, of_decide_eq_true hd, hp, rfl, rfl⟩
      · cases e
    · cases e
  · cases e
theorem ok_IdxI : FnOk Try.prog 89 gIdxI := by
  refine fnOk (tab_cons (k := 82) ok_tur1 tab_nil) Try.func89 rfl rfl annIdxI fun vs h v h' e => ?_
  obtain ⟨n, f, rw, l, p, rfl, rfl, hd, hp, rfl, rfl⟩ := gIdx_invI e
  clear e
  by_cases h1 : f = 82
  · subst h1
    cases hp
    exact run_idxI _ n rw l hd.1 hd.2 _ fun N K M i => stepFinI M N n i rw l K
  · unfold pOfI at hp
    rw [if_neg h1] at hp
    cases hp

/-! ### 'slices.ContainsFunc' and the three that call it -/
def gConI : G := fun vs h => match vs, h with
  | [.sl 0 0 n, .fn f], [.at rw (.int .i64 l)] => match decide (l.length = n ∧ n < 2147483648) with
    | true => match pOfI f with
      | some p => some (.bool (decide (ixOfI p l ≥ 0)), [.at rw (.int .i64 l)])
      | none => none
    | false => none
  | _, _ => none
theorem gIdx_eqI {n : Nat} {f : FuncId} {rw : Bool} {l : List Int} {p : Int → Bool} (hd : l.length = n ∧ n < 2147483648) (hp : pOfI f = some p) : gIdxI [.sl 0 0 n, .fn f] [.at rw (.int .i64 l)] = some (.int .i64 (ixOfI p l), [.at rw (.int .i64 l)]) := by
  simp only [gIdxI, decide_eq_true hd, hp]
theorem gCon_eqI {n : Nat} {f : FuncId} {rw : Bool} {l : List Int} {p : Int → Bool} (hd : l.length = n ∧ n < 2147483648) (hp : pOfI f = some p) : gConI [.sl 0 0 n, .fn f] [.at rw (.int .i64 l)] = some (.bool (decide (ixOfI p l ≥ 0)), [.at rw (.int .i64 l)]) := by
  simp only [gConI, decide_eq_true hd, hp]
theorem gCon_invI {vs : List V} {h : H} {v : V} {h' : H} (e : gConI vs h = some (v, h')) : ∃ n f rw l p, vs = [.sl 0 0 n, .fn f] ∧ h = [.at rw (.int .i64 l)] ∧ (l.length = n ∧ n < 2147483648) ∧ pOfI f = some p ∧ v = .bool (decide (ixOfI p l ≥ 0)) ∧ h' = [.at rw (.int .i64 l)] := by
  unfold gConI at e
  split at e
  · split at e
    · rename_i hd
      split at e
      · rename_i hp
        cases e
        exact ⟨_, _, _, _, _, rfl, rfl, of_decide_eq_true hd, hp, rfl, rfl⟩
      · cases e
    · cases e
  · cases e
theorem ok_ConI : FnOk Try.prog 81 gConI := by
  refine fnOk (tab_cons (k := 89) ok_IdxI tab_nil) Try.func81 rfl rfl ann0 fun vs h v h' e => ⟨0, ?_⟩
  obtain ⟨n, f, rw, l, p, rfl, rfl, hd, hp, rfl, rfl⟩ := gCon_invI e
  clear e
  have h : tab [(89, gIdxI)] 89 [.sl 0 0 n, .fn f] [.at rw (.int .i64 l)] = _ := gIdx_eqI (rw := rw) hd hp
  conv => lhs; whnf
  simp only [h]
  kernel_rfl
/-- All of a list. -/
def gAllI (p : Int → Bool) : G := fun vs h => match vs, h with
  | [.sl 0 0 n], [.at rw (.int .i64 l)] => match decide (l.length = n ∧ n < 2147483648) with
    | true => some (.bool (l.all p), [.at rw (.int .i64 l)])
    | false => none
  | _, _ => none
theorem first_allI (p : Int → Bool) : ∀ (l : List Int) (i : Nat), (!(decide ((match firstOfI (fun x => !p x) l i with | some j => (j : Int) | none => -1) ≥ 0))) = l.all p
  | [], i => rfl
  | x :: l, i => by
    unfold firstOfI
    simp only [List.all_cons]
    cases p x with
    | true => simp only [Bool.not_true, Bool.true_and]; exact first_allI p l (i + 1)
    | false => simp
theorem ix_allI (p : Int → Bool) (l : List Int) : (!(decide (ixOfI (fun x => !p x) l ≥ 0))) = l.all p := first_allI p l 0
theorem gAll_invI {q : Int → Bool} {vs : List V} {h : H} {v : V} {h' : H} (e : gAllI q vs h = some (v, h')) : ∃ n rw l, vs = [.sl 0 0 n] ∧ h = [.at rw (.int .i64 l)] ∧ (l.length = n ∧ n < 2147483648) ∧ v = .bool (l.all q) ∧ h' = [.at rw (.int .i64 l)] := by
  unfold gAllI at e
  split at e
  · split at e
    · rename_i hd
      cases e
      exact ⟨_, _, _, rfl, rfl, of_decide_eq_true hd, rfl, rfl⟩
    · cases e
  · cases e
theorem gAll_eqI {q : Int → Bool} {n : Nat} {rw : Bool} {l : List Int} (hd : l.length = n ∧ n < 2147483648) : gAllI q [.sl 0 0 n] [.at rw (.int .i64 l)] = some (.bool (l.all q), [.at rw (.int .i64 l)]) := by
  simp only [gAllI, decide_eq_true hd]
theorem ok_areTurns : FnOk Try.prog 55 (gAllI turB) := by
  refine fnOk (tab_cons (k := 81) ok_ConI tab_nil) Try.func55 rfl rfl ann0 fun vs h v h' e => ⟨0, ?_⟩
  obtain ⟨n, rw, l, rfl, rfl, hd, rfl, rfl⟩ := gAll_invI e
  clear e
  have h : tab [(81, gConI)] 81 [.sl 0 0 n, .fn 82] [.at rw (.int .i64 l)] = some (.bool (decide (ixOfI (fun x => !turB x) l ≥ 0)), [.at rw (.int .i64 l)]) := gCon_eqI (f := 82) (rw := rw) (p := fun x => !turB x) hd (by kernel_rfl)
  rw [← ix_allI]
  conv => lhs; whnf
  simp only [h]
  kernel_rfl
end Go.Proofs.Ytjjdfeemkkeokaa.Ab
