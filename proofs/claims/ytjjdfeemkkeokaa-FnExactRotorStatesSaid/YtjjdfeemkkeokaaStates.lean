/- 'RotorStates': what it computes, and its law. Only lemmas. -/
import Derived.Test.YtjjdfeemkkeokaaNum
namespace Go.Proofs.Ytjjdfeemkkeokaa.Ab
set_option linter.unusedVariables false
set_option linter.unusedSimpArgs false
open Go

def termB (b j most : Int) : Bool := decide (IntKind.i64.wrap (IntKind.i64.wrap (b * j) * IntKind.i64.wrap (j + 1)) ≤ most)
def sumJ (b most : Int) : Nat → Int → Int → Option Int
  | 0, _, _ => none
  | M + 1, s, j => match termB b j most with
    | true => sumJ b most M (IntKind.i64.wrap (s + IntKind.i64.wrap (IntKind.i64.wrap (2 * j) + 1))) (IntKind.i64.wrap (j + 1))
    | false => some s
theorem sumJ_some {b most : Int} (h1 : 1 ≤ b) (h2 : b ≤ 1000) (h4 : most ≤ 1000000) : ∀ (M : Nat) (s j : Int), 0 ≤ j → j ≤ 1000 → 1001 ≤ (M : Int) + j → ∃ r, sumJ b most M s j = some r := by
  intro M
  induction M with
  | zero => intro s j _ _ _; omega
  | succ M ih =>
    intro s j h0 hj hM
    unfold sumJ
    cases ht : termB b j most with
    | false => exact ⟨s, rfl⟩
    | true =>
      have hw : IntKind.i64.wrap (j + 1) = j + 1 := wrap_s (by omega) (by omega)
      have hlt : j ≤ 999 := by
        by_cases hc : j ≤ 999
        · exact hc
        · have hj' : j = 1000 := by omega
          subst hj'
          unfold termB at ht
          have ht := of_decide_eq_true ht
          rw [wrap_s (n := b * 1000) (by omega) (by omega), hw] at ht
          rw [wrap_s (by omega) (by omega)] at ht
          omega
      rw [hw]
      exact ih _ _ (by omega) (by omega) (by omega)

def stOk (b most : Int) : Bool := inB b 1 1000 && inB most 0 1000000
def stN (b most : Int) : Int := cond (stOk b most) ((sumJ b most 1001 0 0).getD 0) 0
theorem st_some {b most : Int} (h1 : inB b 1 1000 = true) (h2 : inB most 0 1000000 = true) : ∃ r, sumJ b most 1001 0 0 = some r := by
  simp only [inB, Bool.and_eq_true, decide_eq_true_eq] at h1 h2
  exact sumJ_some h1.1 h1.2 h2.2 _ _ _ (by omega) (by omega) (by omega)
def gStates : G := fun vs h => match vs, h with | [.int .i64 b, .int .i64 most], [] => some (.tup [.a (.int .i64 (stN b most)), .a (.bool (stOk b most))], []) | _, _ => none
def annStates : Ann := ⟨fun r => if r = 5 then some ([0, 1, 6, 7], [6]) else none, fun _ _ => .quiet⟩
abbrev kpStates : Option (List Nat × List Nat) := some ([0, 1, 6, 7], [6])
def stStates (b most s j : Int) : St := ⟨[.int .i64 b, .int .i64 most, .any, .any, .any, .any, .int .i64 s, .int .i64 j] ++ List.replicate 24 .any, []⟩
def endStates (s : Int) : St := ⟨[.any, .any, .any, .any, .any, .any, .int .i64 s, .any] ++ List.replicate 24 .any, []⟩

theorem step_specStates {R : Type} (N M : Nat) (b most s j : Int) (K : X → St → Option R) :
    loopH 0 kpStates (fun st K => exec ty (tab [(50, gIn)]) annStates N 0 (loopOf 5 Try.f17) st K) (M + 1) (stStates b most s j) K
    = match termB b j most with
      | true => loopH 0 kpStates (fun st K => exec ty (tab [(50, gIn)]) annStates N 0 (loopOf 5 Try.f17) st K) M (stStates b most (IntKind.i64.wrap (s + IntKind.i64.wrap (IntKind.i64.wrap (2 * j) + 1))) (IntKind.i64.wrap (j + 1))) K
      | false => K (.exit 0) (endStates s) := by
  kernel_rfl
theorem loop_specStates {R : Type} (N : Nat) (b most : Int) (K : X → St → Option R) : ∀ (M : Nat) (s j : Int),
    loopH 0 kpStates (fun st K => exec ty (tab [(50, gIn)]) annStates N 0 (loopOf 5 Try.f17) st K) M (stStates b most s j) K
    = match sumJ b most M s j with
      | some r => K (.exit 0) (endStates r)
      | none => none := by
  intro M
  induction M with
  | zero => intro s j; rfl
  | succ M ih =>
    intro s j
    rw [step_specStates]
    unfold sumJ
    cases termB b j most with
    | true => exact ih _ _
    | false => rfl
set_option maxHeartbeats 0 in
theorem ok_specStates : FnOk Try.prog 17 gStates := by
  refine fnOk (tab_cons (k := 50) ok_l00In tab_nil) Try.func17 rfl rfl annStates fun vs h v h' e => ?_
  unfold gStates at e
  split at e
  · cases e
    rename_i b most
    obtain ⟨N, hN⟩ : ∃ N, N = 1001 := ⟨_, rfl⟩
    refine ⟨N, ?_⟩
    unfold stN stOk
    conv => lhs; whnf
    cases h1 : inB b 1 1000 with
    | false => kernel_rfl
    | true =>
      conv => lhs; whnf
      cases h2 : inB most 0 1000000 with
      | false => kernel_rfl
      | true =>
        obtain ⟨r, hr⟩ := st_some h1 h2
        rw [hr]
        conv => lhs; whnf
        refine Eq.trans (loop_specStates N b most _ N 0 0) ?_
        subst hN
        rw [hr]
        kernel_rfl
  · cases e

theorem step_implStates {R : Type} (N M : Nat) (b most s j : Int) (K : X → St → Option R) :
    loopH 0 kpStates (fun st K => exec ty (tab [(48, gIn)]) annStates N 0 (loopOf 5 Try.f18) st K) (M + 1) (stStates b most s j) K
    = match termB b j most with
      | true => loopH 0 kpStates (fun st K => exec ty (tab [(48, gIn)]) annStates N 0 (loopOf 5 Try.f18) st K) M (stStates b most (IntKind.i64.wrap (s + IntKind.i64.wrap (IntKind.i64.wrap (2 * j) + 1))) (IntKind.i64.wrap (j + 1))) K
      | false => K (.exit 0) (endStates s) := by
  kernel_rfl
theorem loop_implStates {R : Type} (N : Nat) (b most : Int) (K : X → St → Option R) : ∀ (M : Nat) (s j : Int),
    loopH 0 kpStates (fun st K => exec ty (tab [(48, gIn)]) annStates N 0 (loopOf 5 Try.f18) st K) M (stStates b most s j) K
    = match sumJ b most M s j with
      | some r => K (.exit 0) (endStates r)
      | none => none := by
  intro M
  induction M with
  | zero => intro s j; rfl
  | succ M ih =>
    intro s j
    rw [step_implStates]
    unfold sumJ
    cases termB b j most with
    | true => exact ih _ _
    | false => rfl
set_option maxHeartbeats 0 in
theorem ok_implStates : FnOk Try.prog 18 gStates := by
  refine fnOk (tab_cons (k := 48) ok_within tab_nil) Try.func18 rfl rfl annStates fun vs h v h' e => ?_
  unfold gStates at e
  split at e
  · cases e
    rename_i b most
    obtain ⟨N, hN⟩ : ∃ N, N = 1001 := ⟨_, rfl⟩
    refine ⟨N, ?_⟩
    unfold stN stOk
    conv => lhs; whnf
    cases h1 : inB b 1 1000 with
    | false => kernel_rfl
    | true =>
      conv => lhs; whnf
      cases h2 : inB most 0 1000000 with
      | false => kernel_rfl
      | true =>
        obtain ⟨r, hr⟩ := st_some h1 h2
        rw [hr]
        conv => lhs; whnf
        refine Eq.trans (loop_implStates N b most _ N 0 0) ?_
        subst hN
        rw [hr]
        kernel_rfl
  · cases e

def gLawStates : G := fun vs h => match vs, h with | [.int .i64 _, .int .i64 _], [] => some (.bool true, []) | _, _ => none
theorem ok_lawStates : FnOk Try.prog 4 gLawStates := by
  refine fnOk (tab_cons (k := 17) ok_specStates (tab_cons (k := 18) ok_implStates tab_nil)) Try.func4 rfl rfl ann0 fun vs h v h' e => ⟨0, ?_⟩
  unfold gLawStates at e
  split at e
  · cases e
    rename_i b most
    refine Eq.trans (b := match stN b most != stN b most with
      | true => some (.bool false, [])
      | false => match !(stOk b most == stOk b most) with
        | true => some (.bool false, [])
        | false => some (.bool true, [])) (by kernel_rfl) ?_
    simp
  · cases e
end Go.Proofs.Ytjjdfeemkkeokaa.Ab
