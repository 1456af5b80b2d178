/- A number gets its digits. Only lemmas. Printed by gen_ptr.py. -/
import Derived.Test.YtbhfjdlhhjeknaaPut
namespace Go.Proofs.Ytbhfjdlhhjeknaa.Ab
set_option linter.unusedVariables false
set_option linter.unusedSimpArgs false
open Go
def an_putA : Ann := ⟨fun r => if r = 1 then some ([0, 1, 2], [0, 1, 2]) else none, fun _ _ => .quiet⟩
def tab_putA : Fns := tabT []
theorem tabok_putA : ∀ f, FnT Try.prog f (tab_putA f) := tabT_nil
def st_putA1 (less1 : Bool) (digits2n : Nat) (b0_0 : Bool) (b0_1 : Nat) (l1 : List Int) : St := ⟨[.ptr 0 0, .bool less1, .ro 1 digits2n, .any, .any, .any, .any, .any, .any, .any, .any, .any, .any, .any, .any, .any, .any, .any, .any, .any, .any, .any, .any, .any, .any, .any, .any, .any, .any, .any, .any, .any, .any, .any, .any, .any, .any, .any], [.at true (.as 1 [.bool b0_0, .big b0_1]), .at false (.int .u32 l1)]⟩
abbrev kp_putA1 : Option (List Nat × List Nat) := some ([0, 1, 2], [0, 1, 2])
noncomputable def lp_putA1 {R : Type} (N M : Nat) (s : St) (K : X → St → Option R) : Option R := loopH 2 kp_putA1 (fun st K => exec ty tab_putA an_putA N 2 (atOf [true, false, false, false] Try.f160) st K) M s K
noncomputable def bk_putA1 {R : Type} (N M : Nat) (K : X → St → Option R) : X → St → Option R := fun x st => match x with | .norm => tidyK 2 (kp_putA1.map (·.1)) st fun st => lp_putA1 N M st K | x => tidyK 2 (kp_putA1.map (·.2)) st fun st => K x st
noncomputable def kt_putA1 {R : Type} (N : Nat) (K : X → St → Option R) : X → St → Option R := kBlkR 0 (kSeqR tab_putA an_putA N 2 (atOf [true, true] Try.f160) (K))
def en_putA1_0 (less1 : Bool) (digits2n : Nat) (b0_0 : Bool) (b0_1 : Nat) (l1 : List Int) : St := ⟨[.ptr 0 0, .bool less1, .ro 1 digits2n, .any, .any, .any, .any, .any, .any, .any, .any, .any, .any, .any, .any, .any, .any, .any, .any, .any, .any, .any, .any, .any, .any, .any, .any, .any, .any, .any, .any, .any, .any, .any, .any, .any, .any, .any], [.at true (.as 1 [.bool b0_0, .big b0_1]), .at false (.int .u32 l1)]⟩
theorem run_putA (N : Nat) (s : Bool) (n : Nat) (s0 : Bool) (v0 : Nat) (A : List Int) : run ty tab_putA an_putA N Try.f160 [.ptr 0 0, .bool s, .ro 1 n] [.at true (.as 1 [.bool s0, .big v0]), .at false (.int .u32 A)]
    = lp_putA1 N N (st_putA1 s n s0 v0 A) (kt_putA1 N (kEnd Try.f160 2)) := by
  kernel_rfl
theorem step_putA1 {R : Type} (N M : Nat) (K : X → St → Option R) (less1 : Bool) (digits2n : Nat) (b0_0 : Bool) (b0_1 : Nat) (l1 : List Int) : lp_putA1 N (M + 1) (st_putA1 less1 digits2n b0_0 b0_1 l1) K
    = (match decide ((((digits2n : Nat) : Int) : Int) > 0) with
  | true => (match decide (0 ≤ (IntKind.i64.wrap (((digits2n : Nat) : Int) - 1) : Int) ∧ (IntKind.i64.wrap (((digits2n : Nat) : Int) - 1) : Int) < ((digits2n : Nat) : Int)) with
    | true => (match l1[0 + (IntKind.i64.wrap (((digits2n : Nat) : Int) - 1)).toNat * 1]? with
      | some e1 => (match e1 == 0 with
        | true => (match decide (0 ≤ (IntKind.i64.wrap (((digits2n : Nat) : Int) - 1) : Int) ∧ (IntKind.i64.wrap (((digits2n : Nat) : Int) - 1) : Int) ≤ ((digits2n : Nat) : Int)) with
          | true => lp_putA1 N M (st_putA1 less1 ((IntKind.i64.wrap (((digits2n : Nat) : Int) - 1)).toNat) b0_0 b0_1 l1) K
          | false => none)
        | false => K (.exit 0) (en_putA1_0 less1 digits2n b0_0 b0_1 l1))
      | none => none)
    | false => none)
  | false => K (.exit 0) (en_putA1_0 less1 digits2n b0_0 b0_1 l1)) := by
  kernel_rfl
theorem end_putA1_0 (N : Nat) (less1 : Bool) (digits2n : Nat) (b0_0 : Bool) (b0_1 : Nat) (l1 : List Int) : kt_putA1 N (kEnd Try.f160 2) (.exit 0) (en_putA1_0 less1 digits2n b0_0 b0_1 l1)
    = (match less1 with
  | true => some (.ptr 0 0, [.at true (.as 1 [.bool (decide ((((digits2n : Nat) : Int) : Int) > 0)), .ro 1 digits2n]), .at false (.int .u32 l1)])
  | false => some (.ptr 0 0, [.at true (.as 1 [.bool false, .ro 1 digits2n]), .at false (.int .u32 l1)])) := by
  kernel_rfl

theorem H_putA (s s0 : Bool) (v0 : Nat) (D : List Int) (hD : okD D) (hlen : D.length ≤ maxLen) : ∃ N n, n ≤ D.length ∧ nv (D.take n) = nv D ∧ (D.take n).getLast? ≠ some 0 ∧
      run ty tab_putA an_putA N Try.f160 [.ptr 0 0, .bool s, .ro 1 D.length] ((.at true (.as 1 (.bool s0 :: .big v0 :: [])) :: []) ++ [.at false (.int .u32 D)]) =
        some (.ptr 0 0, (.at true (.as 1 (.bool (s && decide (0 < nv D)) :: .ro 1 n :: [])) :: []) ++ [.at false (.int .u32 D)]) := by
  unfold maxLen at hlen
  refine ⟨D.length + 1, ?_⟩
  have hrun := run_putA (D.length + 1) s D.length s0 v0 D
  have key := loop_fuel (N := D.length + 1) (fun M (n : Nat) => lp_putA1 (D.length + 1) M (st_putA1 s n s0 v0 D) (kt_putA1 (D.length + 1) (kEnd Try.f160 2))) (fun n => n ≤ D.length ∧ nv (D.take n) = nv D) (fun n => n)
    (fun o => ∃ n, n ≤ D.length ∧ nv (D.take n) = nv D ∧ (D.take n).getLast? ≠ some 0 ∧ o = some (.ptr 0 0, (.at true (.as 1 (.bool (s && decide (0 < nv D)) :: .ro 1 n :: [])) :: []) ++ [.at false (.int .u32 D)])) (fun M n hs => ?_) (s := D.length) ⟨Nat.le_refl _, by rw [List.take_length]⟩ (Nat.lt_succ_self _)
  · obtain ⟨n, h1, h2, h3, h4⟩ := key
    exact ⟨n, h1, h2, h3, hrun.trans h4⟩
  obtain ⟨hn, hv⟩ := hs
  cases n with
  | zero =>
    left
    have h3 : (D.take 0).getLast? ≠ some 0 := by simp
    refine ⟨0, hn, hv, h3, ?_⟩
    have hp := trim_pos hD hn hv h3
    simp only [step_putA1, decide_eq_false (show ¬ ((((0 : Nat) : Int) : Int) > 0) by omega), end_putA1_0]
    rw [← hp, decide_eq_false (show ¬ ((((0 : Nat) : Int) : Int) > 0) by omega)]
    cases s <;> rfl
  | succ n =>
    obtain ⟨x, hx, _, _⟩ := nat_get hD (show n < D.length by omega)
    have w : IntKind.i64.wrap (((n + 1 : Nat) : Int) - 1) = (n : Int) := by rw [wrap_z (by omega) (by omega)]; omega
    have hpos : decide ((((n + 1 : Nat) : Int) : Int) > 0) = true := decide_eq_true (by omega)
    have htl := take_last hx
    by_cases h0 : x = 0
    · right
      subst h0
      refine ⟨n, ⟨by omega, ?_⟩, Nat.lt_succ_self n, ?_⟩
      · rw [← hv, htl, nv_snoc]
        simp
      · have e1 : decide (0 ≤ (n : Int) ∧ (n : Int) ≤ ((n + 1 : Nat) : Int)) = true := decide_eq_true (by omega)
        simp only [step_putA1, hpos, w, din (Nat.lt_succ_self n), ix, hx, show (((0 : Nat) : Int) == 0) = true from rfl, e1]
        rw [Int.toNat_natCast]
    · left
      have h3 : (D.take (n + 1)).getLast? ≠ some 0 := by
        rw [htl, List.getLast?_append]
        simp
        omega
      refine ⟨n + 1, hn, hv, h3, ?_⟩
      have hp := trim_pos hD hn hv h3
      have hx0 : ((x : Int) == 0) = false := by simp; omega
      simp only [step_putA1, hpos, w, din (Nat.lt_succ_self n), ix, hx, hx0, end_putA1_0]
      rw [← hp, hpos]
      cases s <;> rfl
def an_putB : Ann := ⟨fun r => if r = 1 then some ([0, 1, 2], [0, 1, 2]) else none, fun _ _ => .quiet⟩
def tab_putB : Fns := tabT []
theorem tabok_putB : ∀ f, FnT Try.prog f (tab_putB f) := tabT_nil
def st_putB1 (less1 : Bool) (digits2n : Nat) (b0_0 : Bool) (b0_1 : Nat) (b0_2 : Nat) (l1 : List Int) : St := ⟨[.ptr 0 0, .bool less1, .ro 1 digits2n, .any, .any, .any, .any, .any, .any, .any, .any, .any, .any, .any, .any, .any, .any, .any, .any, .any, .any, .any, .any, .any, .any, .any, .any, .any, .any, .any, .any, .any, .any, .any, .any, .any, .any, .any], [.at true (.as 1 [.bool b0_0, .big b0_1, .big b0_2]), .at false (.int .u32 l1)]⟩
abbrev kp_putB1 : Option (List Nat × List Nat) := some ([0, 1, 2], [0, 1, 2])
noncomputable def lp_putB1 {R : Type} (N M : Nat) (s : St) (K : X → St → Option R) : Option R := loopH 2 kp_putB1 (fun st K => exec ty tab_putB an_putB N 2 (atOf [true, false, false, false] Try.f160) st K) M s K
noncomputable def bk_putB1 {R : Type} (N M : Nat) (K : X → St → Option R) : X → St → Option R := fun x st => match x with | .norm => tidyK 2 (kp_putB1.map (·.1)) st fun st => lp_putB1 N M st K | x => tidyK 2 (kp_putB1.map (·.2)) st fun st => K x st
noncomputable def kt_putB1 {R : Type} (N : Nat) (K : X → St → Option R) : X → St → Option R := kBlkR 0 (kSeqR tab_putB an_putB N 2 (atOf [true, true] Try.f160) (K))
def en_putB1_0 (less1 : Bool) (digits2n : Nat) (b0_0 : Bool) (b0_1 : Nat) (b0_2 : Nat) (l1 : List Int) : St := ⟨[.ptr 0 0, .bool less1, .ro 1 digits2n, .any, .any, .any, .any, .any, .any, .any, .any, .any, .any, .any, .any, .any, .any, .any, .any, .any, .any, .any, .any, .any, .any, .any, .any, .any, .any, .any, .any, .any, .any, .any, .any, .any, .any, .any], [.at true (.as 1 [.bool b0_0, .big b0_1, .big b0_2]), .at false (.int .u32 l1)]⟩
theorem run_putB (N : Nat) (s : Bool) (n : Nat) (s0 : Bool) (v0 : Nat) (d0 : Nat) (A : List Int) : run ty tab_putB an_putB N Try.f160 [.ptr 0 0, .bool s, .ro 1 n] [.at true (.as 1 [.bool s0, .big v0, .big d0]), .at false (.int .u32 A)]
    = lp_putB1 N N (st_putB1 s n s0 v0 d0 A) (kt_putB1 N (kEnd Try.f160 2)) := by
  kernel_rfl
theorem step_putB1 {R : Type} (N M : Nat) (K : X → St → Option R) (less1 : Bool) (digits2n : Nat) (b0_0 : Bool) (b0_1 : Nat) (b0_2 : Nat) (l1 : List Int) : lp_putB1 N (M + 1) (st_putB1 less1 digits2n b0_0 b0_1 b0_2 l1) K
    = (match decide ((((digits2n : Nat) : Int) : Int) > 0) with
  | true => (match decide (0 ≤ (IntKind.i64.wrap (((digits2n : Nat) : Int) - 1) : Int) ∧ (IntKind.i64.wrap (((digits2n : Nat) : Int) - 1) : Int) < ((digits2n : Nat) : Int)) with
    | true => (match l1[0 + (IntKind.i64.wrap (((digits2n : Nat) : Int) - 1)).toNat * 1]? with
      | some e1 => (match e1 == 0 with
        | true => (match decide (0 ≤ (IntKind.i64.wrap (((digits2n : Nat) : Int) - 1) : Int) ∧ (IntKind.i64.wrap (((digits2n : Nat) : Int) - 1) : Int) ≤ ((digits2n : Nat) : Int)) with
          | true => lp_putB1 N M (st_putB1 less1 ((IntKind.i64.wrap (((digits2n : Nat) : Int) - 1)).toNat) b0_0 b0_1 b0_2 l1) K
          | false => none)
        | false => K (.exit 0) (en_putB1_0 less1 digits2n b0_0 b0_1 b0_2 l1))
      | none => none)
    | false => none)
  | false => K (.exit 0) (en_putB1_0 less1 digits2n b0_0 b0_1 b0_2 l1)) := by
  kernel_rfl
theorem end_putB1_0 (N : Nat) (less1 : Bool) (digits2n : Nat) (b0_0 : Bool) (b0_1 : Nat) (b0_2 : Nat) (l1 : List Int) : kt_putB1 N (kEnd Try.f160 2) (.exit 0) (en_putB1_0 less1 digits2n b0_0 b0_1 b0_2 l1)
    = (match less1 with
  | true => some (.ptr 0 0, [.at true (.as 1 [.bool (decide ((((digits2n : Nat) : Int) : Int) > 0)), .ro 1 digits2n, .big b0_2]), .at false (.int .u32 l1)])
  | false => some (.ptr 0 0, [.at true (.as 1 [.bool false, .ro 1 digits2n, .big b0_2]), .at false (.int .u32 l1)])) := by
  kernel_rfl

theorem H_putB (s s0 : Bool) (v0 d0 : Nat) (D : List Int) (hD : okD D) (hlen : D.length ≤ maxLen) : ∃ N n, n ≤ D.length ∧ nv (D.take n) = nv D ∧ (D.take n).getLast? ≠ some 0 ∧
      run ty tab_putB an_putB N Try.f160 [.ptr 0 0, .bool s, .ro 1 D.length] ((.at true (.as 1 (.bool s0 :: .big v0 :: [.big d0])) :: []) ++ [.at false (.int .u32 D)]) =
        some (.ptr 0 0, (.at true (.as 1 (.bool (s && decide (0 < nv D)) :: .ro 1 n :: [.big d0])) :: []) ++ [.at false (.int .u32 D)]) := by
  unfold maxLen at hlen
  refine ⟨D.length + 1, ?_⟩
  have hrun := run_putB (D.length + 1) s D.length s0 v0 d0 D
  have key := loop_fuel (N := D.length + 1) (fun M (n : Nat) => lp_putB1 (D.length + 1) M (st_putB1 s n s0 v0 d0 D) (kt_putB1 (D.length + 1) (kEnd Try.f160 2))) (fun n => n ≤ D.length ∧ nv (D.take n) = nv D) (fun n => n)
    (fun o => ∃ n, n ≤ D.length ∧ nv (D.take n) = nv D ∧ (D.take n).getLast? ≠ some 0 ∧ o = some (.ptr 0 0, (.at true (.as 1 (.bool (s && decide (0 < nv D)) :: .ro 1 n :: [.big d0])) :: []) ++ [.at false (.int .u32 D)])) (fun M n hs => ?_) (s := D.length) ⟨Nat.le_refl _, by rw [List.take_length]⟩ (Nat.lt_succ_self _)
  · obtain ⟨n, h1, h2, h3, h4⟩ := key
    exact ⟨n, h1, h2, h3, hrun.trans h4⟩
  obtain ⟨hn, hv⟩ := hs
  cases n with
  | zero =>
    left
    have h3 : (D.take 0).getLast? ≠ some 0 := by simp
    refine ⟨0, hn, hv, h3, ?_⟩
    have hp := trim_pos hD hn hv h3
    simp only [step_putB1, decide_eq_false (show ¬ ((((0 : Nat) : Int) : Int) > 0) by omega), end_putB1_0]
    rw [← hp, decide_eq_false (show ¬ ((((0 : Nat) : Int) : Int) > 0) by omega)]
    cases s <;> rfl
  | succ n =>
    obtain ⟨x, hx, _, _⟩ := nat_get hD (show n < D.length by omega)
    have w : IntKind.i64.wrap (((n + 1 : Nat) : Int) - 1) = (n : Int) := by rw [wrap_z (by omega) (by omega)]; omega
    have hpos : decide ((((n + 1 : Nat) : Int) : Int) > 0) = true := decide_eq_true (by omega)
    have htl := take_last hx
    by_cases h0 : x = 0
    · right
      subst h0
      refine ⟨n, ⟨by omega, ?_⟩, Nat.lt_succ_self n, ?_⟩
      · rw [← hv, htl, nv_snoc]
        simp
      · have e1 : decide (0 ≤ (n : Int) ∧ (n : Int) ≤ ((n + 1 : Nat) : Int)) = true := decide_eq_true (by omega)
        simp only [step_putB1, hpos, w, din (Nat.lt_succ_self n), ix, hx, show (((0 : Nat) : Int) == 0) = true from rfl, e1]
        rw [Int.toNat_natCast]
    · left
      have h3 : (D.take (n + 1)).getLast? ≠ some 0 := by
        rw [htl, List.getLast?_append]
        simp
        omega
      refine ⟨n + 1, hn, hv, h3, ?_⟩
      have hp := trim_pos hD hn hv h3
      have hx0 : ((x : Int) == 0) = false := by simp; omega
      simp only [step_putB1, hpos, w, din (Nat.lt_succ_self n), ix, hx, hx0, end_putB1_0]
      rw [← hp, hpos]
      cases s <;> rfl
def an_putC : Ann := ⟨fun r => if r = 1 then some ([0, 1, 2], [0, 1, 2]) else none, fun _ _ => .quiet⟩
def tab_putC : Fns := tabT []
theorem tabok_putC : ∀ f, FnT Try.prog f (tab_putC f) := tabT_nil
def st_putC1 (less1 : Bool) (digits2n : Nat) (b0_0 : Bool) (b0_1 : Nat) (l2 : List Int) : St := ⟨[.ptr 0 0, .bool less1, .ro 2 digits2n, .any, .any, .any, .any, .any, .any, .any, .any, .any, .any, .any, .any, .any, .any, .any, .any, .any, .any, .any, .any, .any, .any, .any, .any, .any, .any, .any, .any, .any, .any, .any, .any, .any, .any, .any], [.at true (.as 1 [.bool b0_0, .big b0_1]), .gone, .at false (.int .u32 l2)]⟩
abbrev kp_putC1 : Option (List Nat × List Nat) := some ([0, 1, 2], [0, 1, 2])
noncomputable def lp_putC1 {R : Type} (N M : Nat) (s : St) (K : X → St → Option R) : Option R := loopH 3 kp_putC1 (fun st K => exec ty tab_putC an_putC N 3 (atOf [true, false, false, false] Try.f160) st K) M s K
noncomputable def bk_putC1 {R : Type} (N M : Nat) (K : X → St → Option R) : X → St → Option R := fun x st => match x with | .norm => tidyK 3 (kp_putC1.map (·.1)) st fun st => lp_putC1 N M st K | x => tidyK 3 (kp_putC1.map (·.2)) st fun st => K x st
noncomputable def kt_putC1 {R : Type} (N : Nat) (K : X → St → Option R) : X → St → Option R := kBlkR 0 (kSeqR tab_putC an_putC N 3 (atOf [true, true] Try.f160) (K))
def en_putC1_0 (less1 : Bool) (digits2n : Nat) (b0_0 : Bool) (b0_1 : Nat) (l2 : List Int) : St := ⟨[.ptr 0 0, .bool less1, .ro 2 digits2n, .any, .any, .any, .any, .any, .any, .any, .any, .any, .any, .any, .any, .any, .any, .any, .any, .any, .any, .any, .any, .any, .any, .any, .any, .any, .any, .any, .any, .any, .any, .any, .any, .any, .any, .any], [.at true (.as 1 [.bool b0_0, .big b0_1]), .gone, .at false (.int .u32 l2)]⟩
theorem run_putC (N : Nat) (s : Bool) (n : Nat) (s0 : Bool) (v0 : Nat) (A : List Int) : run ty tab_putC an_putC N Try.f160 [.ptr 0 0, .bool s, .ro 2 n] [.at true (.as 1 [.bool s0, .big v0]), .gone, .at false (.int .u32 A)]
    = lp_putC1 N N (st_putC1 s n s0 v0 A) (kt_putC1 N (kEnd Try.f160 3)) := by
  kernel_rfl
theorem step_putC1 {R : Type} (N M : Nat) (K : X → St → Option R) (less1 : Bool) (digits2n : Nat) (b0_0 : Bool) (b0_1 : Nat) (l2 : List Int) : lp_putC1 N (M + 1) (st_putC1 less1 digits2n b0_0 b0_1 l2) K
    = (match decide ((((digits2n : Nat) : Int) : Int) > 0) with
  | true => (match decide (0 ≤ (IntKind.i64.wrap (((digits2n : Nat) : Int) - 1) : Int) ∧ (IntKind.i64.wrap (((digits2n : Nat) : Int) - 1) : Int) < ((digits2n : Nat) : Int)) with
    | true => (match l2[0 + (IntKind.i64.wrap (((digits2n : Nat) : Int) - 1)).toNat * 1]? with
      | some e1 => (match e1 == 0 with
        | true => (match decide (0 ≤ (IntKind.i64.wrap (((digits2n : Nat) : Int) - 1) : Int) ∧ (IntKind.i64.wrap (((digits2n : Nat) : Int) - 1) : Int) ≤ ((digits2n : Nat) : Int)) with
          | true => lp_putC1 N M (st_putC1 less1 ((IntKind.i64.wrap (((digits2n : Nat) : Int) - 1)).toNat) b0_0 b0_1 l2) K
          | false => none)
        | false => K (.exit 0) (en_putC1_0 less1 digits2n b0_0 b0_1 l2))
      | none => none)
    | false => none)
  | false => K (.exit 0) (en_putC1_0 less1 digits2n b0_0 b0_1 l2)) := by
  kernel_rfl
theorem end_putC1_0 (N : Nat) (less1 : Bool) (digits2n : Nat) (b0_0 : Bool) (b0_1 : Nat) (l2 : List Int) : kt_putC1 N (kEnd Try.f160 3) (.exit 0) (en_putC1_0 less1 digits2n b0_0 b0_1 l2)
    = (match less1 with
  | true => some (.ptr 0 0, [.at true (.as 1 [.bool (decide ((((digits2n : Nat) : Int) : Int) > 0)), .ro 2 digits2n]), .gone, .at false (.int .u32 l2)])
  | false => some (.ptr 0 0, [.at true (.as 1 [.bool false, .ro 2 digits2n]), .gone, .at false (.int .u32 l2)])) := by
  kernel_rfl

theorem H_putC (s s0 : Bool) (v0 : Nat) (D : List Int) (hD : okD D) (hlen : D.length ≤ maxLen) : ∃ N n, n ≤ D.length ∧ nv (D.take n) = nv D ∧ (D.take n).getLast? ≠ some 0 ∧
      run ty tab_putC an_putC N Try.f160 [.ptr 0 0, .bool s, .ro 2 D.length] ((.at true (.as 1 (.bool s0 :: .big v0 :: [])) :: [.gone]) ++ [.at false (.int .u32 D)]) =
        some (.ptr 0 0, (.at true (.as 1 (.bool (s && decide (0 < nv D)) :: .ro 2 n :: [])) :: [.gone]) ++ [.at false (.int .u32 D)]) := by
  unfold maxLen at hlen
  refine ⟨D.length + 1, ?_⟩
  have hrun := run_putC (D.length + 1) s D.length s0 v0 D
  have key := loop_fuel (N := D.length + 1) (fun M (n : Nat) => lp_putC1 (D.length + 1) M (st_putC1 s n s0 v0 D) (kt_putC1 (D.length + 1) (kEnd Try.f160 3))) (fun n => n ≤ D.length ∧ nv (D.take n) = nv D) (fun n => n)
    (fun o => ∃ n, n ≤ D.length ∧ nv (D.take n) = nv D ∧ (D.take n).getLast? ≠ some 0 ∧ o = some (.ptr 0 0, (.at true (.as 1 (.bool (s && decide (0 < nv D)) :: .ro 2 n :: [])) :: [.gone]) ++ [.at false (.int .u32 D)])) (fun M n hs => ?_) (s := D.length) ⟨Nat.le_refl _, by rw [List.take_length]⟩ (Nat.lt_succ_self _)
  · obtain ⟨n, h1, h2, h3, h4⟩ := key
    exact ⟨n, h1, h2, h3, hrun.trans h4⟩
  obtain ⟨hn, hv⟩ := hs
  cases n with
  | zero =>
    left
    have h3 : (D.take 0).getLast? ≠ some 0 := by simp
    refine ⟨0, hn, hv, h3, ?_⟩
    have hp := trim_pos hD hn hv h3
    simp only [step_putC1, decide_eq_false (show ¬ ((((0 : Nat) : Int) : Int) > 0) by omega), end_putC1_0]
    rw [← hp, decide_eq_false (show ¬ ((((0 : Nat) : Int) : Int) > 0) by omega)]
    cases s <;> rfl
  | succ n =>
    obtain ⟨x, hx, _, _⟩ := nat_get hD (show n < D.length by omega)
    have w : IntKind.i64.wrap (((n + 1 : Nat) : Int) - 1) = (n : Int) := by rw [wrap_z (by omega) (by omega)]; omega
    have hpos : decide ((((n + 1 : Nat) : Int) : Int) > 0) = true := decide_eq_true (by omega)
    have htl := take_last hx
    by_cases h0 : x = 0
    · right
      subst h0
      refine ⟨n, ⟨by omega, ?_⟩, Nat.lt_succ_self n, ?_⟩
      · rw [← hv, htl, nv_snoc]
        simp
      · have e1 : decide (0 ≤ (n : Int) ∧ (n : Int) ≤ ((n + 1 : Nat) : Int)) = true := decide_eq_true (by omega)
        simp only [step_putC1, hpos, w, din (Nat.lt_succ_self n), ix, hx, show (((0 : Nat) : Int) == 0) = true from rfl, e1]
        rw [Int.toNat_natCast]
    · left
      have h3 : (D.take (n + 1)).getLast? ≠ some 0 := by
        rw [htl, List.getLast?_append]
        simp
        omega
      refine ⟨n + 1, hn, hv, h3, ?_⟩
      have hp := trim_pos hD hn hv h3
      have hx0 : ((x : Int) == 0) = false := by simp; omega
      simp only [step_putC1, hpos, w, din (Nat.lt_succ_self n), ix, hx, hx0, end_putC1_0]
      rw [← hp, hpos]
      cases s <;> rfl
def gPut : GT := fun vs h => match vs, h with
  | [.ptr 0 0, .bool s, .u (.a (.dig v))], [.at true (.as 1 [.bool _, .big _])] => .ret (.ptr 0 0) [.at true (.as 1 [.bool (s && decide (0 < v)), .big v])]
  | [.ptr 0 0, .bool s, .u (.a (.big v))], [.at true (.as 1 [.bool _, .big _])] => .ret (.ptr 0 0) [.at true (.as 1 [.bool (s && decide (0 < v)), .big v])]
  | [.ptr 0 0, .bool s, .u (.a (.dig v))], [.at true (.as 1 [.bool _, .big _, .big d])] => .ret (.ptr 0 0) [.at true (.as 1 [.bool (s && decide (0 < v)), .big v, .big d])]
  | [.ptr 0 0, .bool s, .u (.a (.big v))], [.at true (.as 1 [.bool _, .big _, .big d])] => .ret (.ptr 0 0) [.at true (.as 1 [.bool (s && decide (0 < v)), .big v, .big d])]
  | [.ptr 0 0, .bool s, .sl 1 0 n], [.at true (.as 1 [.bool _, .big _]), .at true (.int .u32 A)] => .ite (decide (n = A.length) && digB A) (.ret (.ptr 0 0) [.at true (.as 1 [.bool (s && decide (0 < nv A)), .big (nv A)]), .gone]) .no
  | _, _ => .no
theorem ok_put : FnT Try.prog 160 gPut := by
  intro vs hp v h' e μ w cvs hr hv
  unfold gPut at e
  split at e
  · rename_i s v s0 v0
    obtain ⟨rfl, rfl⟩ := T.ret_inv e
    obtain ⟨c1, c2, c3, rfl, h1, h2, D, hD, rfl, h3⟩ := rep_three hv
    exact put_core tabok_putA Try.func160 rfl rfl an_putA (rest := []) (gs := []) (fun x h => by cases h) (fun x h => by cases h) (H_putA s s0 v0) hr h1 h2 hD h3
  · rename_i s v s0 v0
    obtain ⟨rfl, rfl⟩ := T.ret_inv e
    obtain ⟨c1, c2, c3, rfl, h1, h2, D, hD, rfl, _, h3⟩ := rep_three hv
    exact put_core tabok_putA Try.func160 rfl rfl an_putA (rest := []) (gs := []) (fun x h => by cases h) (fun x h => by cases h) (H_putA s s0 v0) hr h1 h2 hD h3
  · rename_i s v s0 v0 d
    obtain ⟨rfl, rfl⟩ := T.ret_inv e
    obtain ⟨c1, c2, c3, rfl, h1, h2, D, hD, rfl, h3⟩ := rep_three hv
    exact put_core tabok_putB Try.func160 rfl rfl an_putB (rest := [.big d]) (gs := []) (fun x h => by simp at h; subst h; rfl) (fun x h => by cases h) (H_putB s s0 v0 d) hr h1 h2 hD h3
  · rename_i s v s0 v0 d
    obtain ⟨rfl, rfl⟩ := T.ret_inv e
    obtain ⟨c1, c2, c3, rfl, h1, h2, D, hD, rfl, _, h3⟩ := rep_three hv
    exact put_core tabok_putB Try.func160 rfl rfl an_putB (rest := [.big d]) (gs := []) (fun x h => by simp at h; subst h; rfl) (fun x h => by cases h) (H_putB s s0 v0 d) hr h1 h2 hD h3
  · rename_i s n s0 v0 D
    obtain ⟨hd, e⟩ := T.pre_inv e
    obtain ⟨rfl, rfl⟩ := T.ret_inv e
    rw [Bool.and_eq_true] at hd
    have hn := of_decide_eq_true hd.1
    subst hn
    have hD := digB_iff.1 hd.2
    obtain ⟨c1, c2, c3, rfl, h1, h2, h3⟩ := rep_three hv
    have hl : 1 < μ.l.length := by have := hr.len; simp at this; omega
    obtain ⟨z, z1, z2, z3⟩ := (Ev.refl hr).freeze (k := 1) (List.getElem?_eq_getElem hl) rfl
    have hp : Pre μ ⟨z, μ.l⟩ := ⟨z1, [], by simp⟩
    have h3 : RepA ⟨z, μ.l⟩ (.sl 1 0 D.length) c3 := RepA.pre hp h3
    have hs := slz_sl (μ := ⟨z, μ.l⟩) (List.getElem?_eq_getElem hl) z2 (Nat.le_refl _) h3
    rw [List.take_length] at hs
    refine (put_core tabok_putC Try.func160 rfl rfl an_putC (rest := []) (gs := [.gone]) (fun x h => by cases h) (fun x h => by simpa using h) (H_putC s s0 v0) (μ := ⟨z, μ.l⟩) z3.rel (h1.pre hp) h2 hD hs).mono fun cv w' ⟨μ', he, hcv⟩ => ⟨μ', z3.trans he, hcv⟩
  · exact (T.no_inv e).elim
end Go.Proofs.Ytbhfjdlhhjeknaa.Ab
