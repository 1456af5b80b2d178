/- The terms of a shell: the reference. Only lemmas. Printed by gen_terms2.py. -/
import Derived.Test.YtbbggpcbnahgiaaTeC
namespace Go.Proofs.Ytbbggpcbnahgiaa.Ab
set_option linter.unusedVariables false
set_option linter.unusedSimpArgs false
open Go
def an_ts : Ann := ⟨fun r => if r = 3 then some ([0, 1, 5, 6], [5]) else if r = 9 then some ([0, 1, 5, 6, 7, 8, 9, 10], [0, 1, 5, 6, 7, 8, 9]) else if r = 19 then some ([5, 11, 12], [11]) else if r = 22 then some ([5, 11, 12, 13], [5, 11, 12]) else if r = 28 then some ([5, 11, 12, 13, 14, 15], [5, 11, 12, 13]) else if r = 31 then some ([5, 11, 12, 13, 14, 15, 16], [5, 11, 12, 13, 14, 15]) else none, fun _ _ => .quiet⟩
def tab_ts : Fns := tabT []
theorem tabok_ts : ∀ f, FnT Try.prog f (tab_ts f) := tabT_nil
def st_ts3 (t0 : Int) (t1 : Int) (t6 : Int) (l0 : List Int) : St := ⟨(.int .i64 t0 :: .int .i64 t1 :: .any :: .any :: .any :: .sl 0 0 231 :: .int .i64 t6 :: (anys 112 [])), [.at true (.int .i64 l0)]⟩
abbrev kp_ts3 : Option (List Nat × List Nat) := some ([0, 1, 5, 6], [5])
noncomputable def lp_ts3 {R : Type} (N M : Nat) (s : St) (K : X → St → Option R) : Option R := loopH 0 kp_ts3 (fun st K => exec ty tab_ts an_ts N 0 (atOf [true, true, false, true, false, false] Try.f41) st K) M s K
noncomputable def bk_ts3 {R : Type} (N M : Nat) (K : X → St → Option R) : X → St → Option R := fun x st => match x with | .norm => tidyK 0 (kp_ts3.map (·.1)) st fun st => lp_ts3 N M st K | x => tidyK 0 (kp_ts3.map (·.2)) st fun st => K x st
noncomputable def kt_ts3 {R : Type} (N : Nat) (K : X → St → Option R) : X → St → Option R := kBlkR 0 (kSeqR tab_ts an_ts N 0 (atOf [true, true, true] Try.f41) (K))
def st_ts9 (t0 : Int) (t1 : Int) (t6 : Int) (t7 : Int) (t8 : Int) (t9 : Int) (t10 : Int) (l0 : List Int) : St := ⟨(.int .i64 t0 :: .int .i64 t1 :: .any :: .any :: .any :: .sl 0 0 231 :: .int .i64 t6 :: .int .i64 t7 :: .int .i64 t8 :: .int .i64 t9 :: .int .i64 t10 :: (anys 108 [])), [.at true (.int .i64 l0)]⟩
abbrev kp_ts9 : Option (List Nat × List Nat) := some ([0, 1, 5, 6, 7, 8, 9, 10], [0, 1, 5, 6, 7, 8, 9])
noncomputable def lp_ts9 {R : Type} (N M : Nat) (s : St) (K : X → St → Option R) : Option R := loopH 0 kp_ts9 (fun st K => exec ty tab_ts an_ts N 0 (atOf [true, true, false, true, false, false, true, false, false, true, true, true, false, true, false, false] Try.f41) st K) M s K
noncomputable def bk_ts9 {R : Type} (N M : Nat) (K : X → St → Option R) : X → St → Option R := fun x st => match x with | .norm => tidyK 0 (kp_ts9.map (·.1)) st fun st => lp_ts9 N M st K | x => tidyK 0 (kp_ts9.map (·.2)) st fun st => K x st
noncomputable def kt_ts9 {R : Type} (N : Nat) (K : X → St → Option R) : X → St → Option R := kBlkR 2 (kSeqR tab_ts an_ts N 0 (atOf [true, true, false, true, false, false, true, false, false, true, true, true, true] Try.f41) (kBlkR 1 (kSeqR tab_ts an_ts N 0 (atOf [true, true, false, true, false, false, true, true] Try.f41) (K))))
def st_ts19 (t11n : Nat) (t12 : Int) (l0 : List Int) (l1 : List Int) : St := ⟨(.any :: .any :: .any :: .any :: .any :: .sl 0 0 231 :: .any :: .any :: .any :: .any :: .any :: .sl 1 0 t11n :: .int .i64 t12 :: (anys 106 [])), [.at true (.int .i64 l0), .at true (.int .i64 l1)]⟩
abbrev kp_ts19 : Option (List Nat × List Nat) := some ([5, 11, 12], [11])
noncomputable def lp_ts19 {R : Type} (N M : Nat) (s : St) (K : X → St → Option R) : Option R := loopH 0 kp_ts19 (fun st K => exec ty tab_ts an_ts N 0 (atOf [true, true, true, true, false, true, false, false] Try.f41) st K) M s K
noncomputable def bk_ts19 {R : Type} (N M : Nat) (K : X → St → Option R) : X → St → Option R := fun x st => match x with | .norm => tidyK 0 (kp_ts19.map (·.1)) st fun st => lp_ts19 N M st K | x => tidyK 0 (kp_ts19.map (·.2)) st fun st => K x st
noncomputable def kt_ts19 {R : Type} (N : Nat) (K : X → St → Option R) : X → St → Option R := kBlkR 4 (kSeqR tab_ts an_ts N 0 (atOf [true, true, true, true, true] Try.f41) (K))
def st_ts22 (t11n : Nat) (t12 : Int) (t13 : Int) (l0 : List Int) (l1 : List Int) : St := ⟨(.any :: .any :: .any :: .any :: .any :: .sl 0 0 231 :: .any :: .any :: .any :: .any :: .any :: .sl 1 0 t11n :: .int .i64 t12 :: .int .i64 t13 :: (anys 105 [])), [.at true (.int .i64 l0), .at true (.int .i64 l1)]⟩
abbrev kp_ts22 : Option (List Nat × List Nat) := some ([5, 11, 12, 13], [5, 11, 12])
noncomputable def lp_ts22 {R : Type} (N M : Nat) (s : St) (K : X → St → Option R) : Option R := loopH 0 kp_ts22 (fun st K => exec ty tab_ts an_ts N 0 (atOf [true, true, true, true, false, true, false, false, true, false, false, true, false, false] Try.f41) st K) M s K
noncomputable def bk_ts22 {R : Type} (N M : Nat) (K : X → St → Option R) : X → St → Option R := fun x st => match x with | .norm => tidyK 0 (kp_ts22.map (·.1)) st fun st => lp_ts22 N M st K | x => tidyK 0 (kp_ts22.map (·.2)) st fun st => K x st
noncomputable def kt_ts22 {R : Type} (N : Nat) (K : X → St → Option R) : X → St → Option R := kBlkR 6 (kBlkR 5 (kSeqR tab_ts an_ts N 0 (atOf [true, true, true, true, false, true, false, false, true, true] Try.f41) (K)))
def st_ts28 (t11n : Nat) (t12 : Int) (t13 : Int) (t14 : Int) (t15 : Int) (l0 : List Int) (l1 : List Int) : St := ⟨(.any :: .any :: .any :: .any :: .any :: .sl 0 0 231 :: .any :: .any :: .any :: .any :: .any :: .sl 1 0 t11n :: .int .i64 t12 :: .int .i64 t13 :: .int .i64 t14 :: .int .i64 t15 :: (anys 103 [])), [.at true (.int .i64 l0), .at true (.int .i64 l1)]⟩
abbrev kp_ts28 : Option (List Nat × List Nat) := some ([5, 11, 12, 13, 14, 15], [5, 11, 12, 13])
noncomputable def lp_ts28 {R : Type} (N M : Nat) (s : St) (K : X → St → Option R) : Option R := loopH 0 kp_ts28 (fun st K => exec ty tab_ts an_ts N 0 (atOf [true, true, true, true, false, true, false, false, true, false, false, true, false, false, true, false, false, true, true, true, true, false, false] Try.f41) st K) M s K
noncomputable def bk_ts28 {R : Type} (N M : Nat) (K : X → St → Option R) : X → St → Option R := fun x st => match x with | .norm => tidyK 0 (kp_ts28.map (·.1)) st fun st => lp_ts28 N M st K | x => tidyK 0 (kp_ts28.map (·.2)) st fun st => K x st
noncomputable def kt_ts28 {R : Type} (N : Nat) (K : X → St → Option R) : X → St → Option R := kBlkR 8 (kBlkR 7 (kSeqR tab_ts an_ts N 0 (atOf [true, true, true, true, false, true, false, false, true, false, false, true, false, false, true, true] Try.f41) (K)))
def st_ts31 (t11n : Nat) (t12 : Int) (t13 : Int) (t14 : Int) (t15 : Int) (t16 : Int) (l0 : List Int) (l1 : List Int) : St := ⟨(.any :: .any :: .any :: .any :: .any :: .sl 0 0 231 :: .any :: .any :: .any :: .any :: .any :: .sl 1 0 t11n :: .int .i64 t12 :: .int .i64 t13 :: .int .i64 t14 :: .int .i64 t15 :: .int .i64 t16 :: (anys 102 [])), [.at true (.int .i64 l0), .at true (.int .i64 l1)]⟩
abbrev kp_ts31 : Option (List Nat × List Nat) := some ([5, 11, 12, 13, 14, 15, 16], [5, 11, 12, 13, 14, 15])
noncomputable def lp_ts31 {R : Type} (N M : Nat) (s : St) (K : X → St → Option R) : Option R := loopH 0 kp_ts31 (fun st K => exec ty tab_ts an_ts N 0 (atOf [true, true, true, true, false, true, false, false, true, false, false, true, false, false, true, false, false, true, true, true, true, false, false, true, false, false, true, false, false] Try.f41) st K) M s K
noncomputable def bk_ts31 {R : Type} (N M : Nat) (K : X → St → Option R) : X → St → Option R := fun x st => match x with | .norm => tidyK 0 (kp_ts31.map (·.1)) st fun st => lp_ts31 N M st K | x => tidyK 0 (kp_ts31.map (·.2)) st fun st => K x st
noncomputable def kt_ts31 {R : Type} (N : Nat) (K : X → St → Option R) : X → St → Option R := kBlkR 10 (kBlkR 9 (kSeqR tab_ts an_ts N 0 (atOf [true, true, true, true, false, true, false, false, true, false, false, true, false, false, true, false, false, true, true, true, true, false, false, true, true] Try.f41) (K)))
def en_ts3_0 (l0 : List Int) : St := ⟨(.any :: .any :: .any :: .any :: .any :: .sl 0 0 231 :: (anys 113 [])), [.at true (.int .i64 l0)]⟩
def en_ts9_0 (t0 : Int) (t1 : Int) (t6 : Int) (t7 : Int) (t8 : Int) (t9 : Int) (l0 : List Int) : St := ⟨(.int .i64 t0 :: .int .i64 t1 :: .any :: .any :: .any :: .sl 0 0 231 :: .int .i64 t6 :: .int .i64 t7 :: .int .i64 t8 :: .int .i64 t9 :: (anys 109 [])), [.at true (.int .i64 l0)]⟩
def en_ts22_0 (t11n : Nat) (t12 : Int) (l0 : List Int) (l1 : List Int) : St := ⟨(.any :: .any :: .any :: .any :: .any :: .sl 0 0 231 :: .any :: .any :: .any :: .any :: .any :: .sl 1 0 t11n :: .int .i64 t12 :: (anys 106 [])), [.at true (.int .i64 l0), .at true (.int .i64 l1)]⟩
def en_ts31_0 (t11n : Nat) (t12 : Int) (t13 : Int) (t14 : Int) (t15 : Int) (l0 : List Int) (l1 : List Int) : St := ⟨(.any :: .any :: .any :: .any :: .any :: .sl 0 0 231 :: .any :: .any :: .any :: .any :: .any :: .sl 1 0 t11n :: .int .i64 t12 :: .int .i64 t13 :: .int .i64 t14 :: .int .i64 t15 :: (anys 103 [])), [.at true (.int .i64 l0), .at true (.int .i64 l1)]⟩
def en_ts19_0 (t11n : Nat) (l0 : List Int) : St := ⟨(anys 11 (.sl 0 0 t11n :: (anys 107 []))), [.at true (.int .i64 l0)]⟩
def en_ts28_0 (t11n : Nat) (t12 : Int) (t13 : Int) (l0 : List Int) (l1 : List Int) : St := ⟨(.any :: .any :: .any :: .any :: .any :: .sl 0 0 231 :: .any :: .any :: .any :: .any :: .any :: .sl 1 0 t11n :: .int .i64 t12 :: .int .i64 t13 :: (anys 105 [])), [.at true (.int .i64 l0), .at true (.int .i64 l1)]⟩
theorem run_ts (N : Nat) (l : Int) (n : Int) : run ty tab_ts an_ts N Try.f41 [.int .i64 l, .int .i64 n] []
    = lp_ts3 N N (st_ts3 l n 0 [0, 0, 0, 0, 0, 0, 0, 0, 0, 0, 0, 0, 0, 0, 0, 0, 0, 0, 0, 0, 0, 0, 0, 0, 0, 0, 0, 0, 0, 0, 0, 0, 0, 0, 0, 0, 0, 0, 0, 0, 0, 0, 0, 0, 0, 0, 0, 0, 0, 0, 0, 0, 0, 0, 0, 0, 0, 0, 0, 0, 0, 0, 0, 0, 0, 0, 0, 0, 0, 0, 0, 0, 0, 0, 0, 0, 0, 0, 0, 0, 0, 0, 0, 0, 0, 0, 0, 0, 0, 0, 0, 0, 0, 0, 0, 0, 0, 0, 0, 0, 0, 0, 0, 0, 0, 0, 0, 0, 0, 0, 0, 0, 0, 0, 0, 0, 0, 0, 0, 0, 0, 0, 0, 0, 0, 0, 0, 0, 0, 0, 0, 0, 0, 0, 0, 0, 0, 0, 0, 0, 0, 0, 0, 0, 0, 0, 0, 0, 0, 0, 0, 0, 0, 0, 0, 0, 0, 0, 0, 0, 0, 0, 0, 0, 0, 0, 0, 0, 0, 0, 0, 0, 0, 0, 0, 0, 0, 0, 0, 0, 0, 0, 0, 0, 0, 0, 0, 0, 0, 0, 0, 0, 0, 0, 0, 0, 0, 0, 0, 0, 0, 0, 0, 0, 0, 0, 0, 0, 0, 0, 0, 0, 0, 0, 0, 0, 0, 0, 0, 0, 0, 0, 0, 0, 0, 0, 0, 0, 0, 0, 0]) (kt_ts3 N (kEnd Try.f41 0)) := by
  kernel_rfl
theorem step_ts3 {R : Type} (N M : Nat) (K : X → St → Option R) (t0 : Int) (t1 : Int) (t6 : Int) (l0 : List Int) : lp_ts3 N (M + 1) (st_ts3 t0 t1 t6 l0) K
    = (match decide (IntKind.i64.wrap ((IntKind.i64.wrap (4 * t0)) + 2) < 0) with | true => none | false => (match decide ((t6 : Int) < (IntKind.i64.wrap (1 * 2 ^ (min (Int.toNat (IntKind.i64.wrap ((IntKind.i64.wrap (4 * t0)) + 2))) 64)))) with | true => lp_ts9 N N (st_ts9 t0 t1 t6 0 0 0 0 l0) (kt_ts9 N (bk_ts3 N M K)) | false => K (.exit 0) (en_ts3_0 l0))) := by
  kernel_rfl
theorem step_ts9 {R : Type} (N M : Nat) (K : X → St → Option R) (t0 : Int) (t1 : Int) (t6 : Int) (t7 : Int) (t8 : Int) (t9 : Int) (t10 : Int) (l0 : List Int) : lp_ts9 N (M + 1) (st_ts9 t0 t1 t6 t7 t8 t9 t10 l0) K
    = (match decide ((t10 : Int) < (IntKind.i64.wrap ((IntKind.i64.wrap (4 * t0)) + 2))) with | true => (match decide (t10 < 0) with | true => none | false => (match (IntKind.i64.wrap (BitVec.ofInt 64 (Int.fdiv t6 (2 ^ (min (Int.toNat t10) 64))) &&& BitVec.ofInt 64 1).toNat) == 0 with | true => lp_ts9 N M (st_ts9 t0 t1 t6 t7 t8 t9 (IntKind.i64.wrap (t10 + 1)) l0) K | false => lp_ts9 N M (st_ts9 t0 t1 t6 (IntKind.i64.wrap (t7 + 1)) (IntKind.i64.wrap (t8 + (IntKind.i64.wrap ((IntKind.i64.wrap (Int.tdiv t10 2)) - t0)))) (IntKind.i64.wrap (t9 + (IntKind.i64.wrap (1 - (IntKind.i64.wrap ((Int.tmod t10 2) * 2)))))) (IntKind.i64.wrap (t10 + 1)) l0) K)) | false => K (.exit 2) (en_ts9_0 t0 t1 t6 t7 t8 t9 l0)) := by
  kernel_rfl
theorem step_ts19 {R : Type} (N M : Nat) (K : X → St → Option R) (t11n : Nat) (t12 : Int) (l0 : List Int) (l1 : List Int) : lp_ts19 N (M + 1) (st_ts19 t11n t12 l0 l1) K
    = (match decide ((t12 : Int) ≥ 0) with | true => lp_ts22 N N (st_ts22 t11n t12 10 l0 l1) (kt_ts22 N (bk_ts19 N M K)) | false => K (.exit 4) (en_ts19_0 t11n l1)) := by
  kernel_rfl
theorem step_ts22 {R : Type} (N M : Nat) (K : X → St → Option R) (t11n : Nat) (t12 : Int) (t13 : Int) (l0 : List Int) (l1 : List Int) : lp_ts22 N (M + 1) (st_ts22 t11n t12 t13 l0 l1) K
    = (match decide ((t13 : Int) ≥ 0) with | true => (match decide (0 ≤ (IntKind.i64.wrap ((IntKind.i64.wrap ((IntKind.i64.wrap ((IntKind.i64.wrap (t12 + 5)) * 21)) + t13)) + 10) : Int) ∧ (IntKind.i64.wrap ((IntKind.i64.wrap ((IntKind.i64.wrap ((IntKind.i64.wrap (t12 + 5)) * 21)) + t13)) + 10) : Int) < 231) with | true => (match l0[0 + (IntKind.i64.wrap ((IntKind.i64.wrap ((IntKind.i64.wrap ((IntKind.i64.wrap (t12 + 5)) * 21)) + t13)) + 10)).toNat * 1]? with | some e1 => (match e1 == 0 with | true => lp_ts22 N M (st_ts22 t11n t12 (IntKind.i64.wrap (t13 - 1)) l0 l1) K | false => (match apok true t11n 1 l1.length 1 (t11n + 3) 8 with | true => lp_ts28 N N (st_ts28 (t11n + 3) t12 t13 e1 (IntKind.i64.wrap (0 - t12)) l0 (l1 ++ [t13, t12, e1])) (kt_ts28 N (bk_ts22 N M K)) | false => none)) | none => none) | false => none) | false => K (.exit 6) (en_ts22_0 t11n t12 l0 l1)) := by
  kernel_rfl
theorem step_ts28 {R : Type} (N M : Nat) (K : X → St → Option R) (t11n : Nat) (t12 : Int) (t13 : Int) (t14 : Int) (t15 : Int) (l0 : List Int) (l1 : List Int) : lp_ts28 N (M + 1) (st_ts28 t11n t12 t13 t14 t15 l0 l1) K
    = (match decide ((t15 : Int) ≤ t12) with | true => lp_ts31 N N (st_ts31 t11n t12 t13 t14 t15 (IntKind.i64.wrap (0 - t13)) l0 l1) (kt_ts31 N (bk_ts28 N M K)) | false => K (.exit 8) (en_ts28_0 t11n t12 t13 l0 l1)) := by
  kernel_rfl
theorem step_ts31 {R : Type} (N M : Nat) (K : X → St → Option R) (t11n : Nat) (t12 : Int) (t13 : Int) (t14 : Int) (t15 : Int) (t16 : Int) (l0 : List Int) (l1 : List Int) : lp_ts31 N (M + 1) (st_ts31 t11n t12 t13 t14 t15 t16 l0 l1) K
    = (match decide ((t16 : Int) ≤ t13) with | true => (match decide (0 ≤ (IntKind.i64.wrap ((IntKind.i64.wrap ((IntKind.i64.wrap ((IntKind.i64.wrap (t15 + 5)) * 21)) + t16)) + 10) : Int) ∧ (IntKind.i64.wrap ((IntKind.i64.wrap ((IntKind.i64.wrap ((IntKind.i64.wrap (t15 + 5)) * 21)) + t16)) + 10) : Int) < 231) with | true => (match l0[0 + (IntKind.i64.wrap ((IntKind.i64.wrap ((IntKind.i64.wrap ((IntKind.i64.wrap (t15 + 5)) * 21)) + t16)) + 10)).toNat * 1]? with | some e1 => (match decide (0 ≤ (IntKind.i64.wrap ((IntKind.i64.wrap ((IntKind.i64.wrap ((IntKind.i64.wrap (t15 + 5)) * 21)) + t16)) + 10) : Int) ∧ (IntKind.i64.wrap ((IntKind.i64.wrap ((IntKind.i64.wrap ((IntKind.i64.wrap (t15 + 5)) * 21)) + t16)) + 10) : Int) < 231) with | true => (match decide (0 + (IntKind.i64.wrap ((IntKind.i64.wrap ((IntKind.i64.wrap ((IntKind.i64.wrap (t15 + 5)) * 21)) + t16)) + 10)).toNat * 1 < l0.length) with | true => lp_ts31 N M (st_ts31 t11n t12 t13 t14 t15 (IntKind.i64.wrap (t16 + 1)) (l0.set (0 + (IntKind.i64.wrap ((IntKind.i64.wrap ((IntKind.i64.wrap ((IntKind.i64.wrap (t15 + 5)) * 21)) + t16)) + 10)).toNat * 1) (IntKind.i64.wrap (e1 - t14))) l1) K | false => none) | false => none) | none => none) | false => none) | false => K (.exit 10) (en_ts31_0 t11n t12 t13 t14 t15 l0 l1)) := by
  kernel_rfl
theorem end_ts3_0 (N : Nat) (l0 : List Int) : kt_ts3 N (kEnd Try.f41 0) (.exit 0) (en_ts3_0 l0)
    = lp_ts19 N N (st_ts19 0 5 l0 []) (kt_ts19 N (kEnd Try.f41 0)) := by
  kernel_rfl
theorem end_ts9_0 {R : Type} (N M : Nat) (K : X → St → Option R) (t0 : Int) (t1 : Int) (t6 : Int) (t7 : Int) (t8 : Int) (t9 : Int) (l0 : List Int) : kt_ts9 N (bk_ts3 N M K) (.exit 2) (en_ts9_0 t0 t1 t6 t7 t8 t9 l0)
    = (match t7 == t1 with | true => (match decide (0 ≤ (IntKind.i64.wrap ((IntKind.i64.wrap ((IntKind.i64.wrap ((IntKind.i64.wrap (t9 + 5)) * 21)) + t8)) + 10) : Int) ∧ (IntKind.i64.wrap ((IntKind.i64.wrap ((IntKind.i64.wrap ((IntKind.i64.wrap (t9 + 5)) * 21)) + t8)) + 10) : Int) < 231) with | true => (match l0[0 + (IntKind.i64.wrap ((IntKind.i64.wrap ((IntKind.i64.wrap ((IntKind.i64.wrap (t9 + 5)) * 21)) + t8)) + 10)).toNat * 1]? with | some e1 => (match decide (0 ≤ (IntKind.i64.wrap ((IntKind.i64.wrap ((IntKind.i64.wrap ((IntKind.i64.wrap (t9 + 5)) * 21)) + t8)) + 10) : Int) ∧ (IntKind.i64.wrap ((IntKind.i64.wrap ((IntKind.i64.wrap ((IntKind.i64.wrap (t9 + 5)) * 21)) + t8)) + 10) : Int) < 231) with | true => (match decide (0 + (IntKind.i64.wrap ((IntKind.i64.wrap ((IntKind.i64.wrap ((IntKind.i64.wrap (t9 + 5)) * 21)) + t8)) + 10)).toNat * 1 < l0.length) with | true => lp_ts3 N M (st_ts3 t0 t1 (IntKind.i64.wrap (t6 + 1)) (l0.set (0 + (IntKind.i64.wrap ((IntKind.i64.wrap ((IntKind.i64.wrap ((IntKind.i64.wrap (t9 + 5)) * 21)) + t8)) + 10)).toNat * 1) (IntKind.i64.wrap (e1 + 1)))) K | false => none) | false => none) | none => none) | false => none) | false => lp_ts3 N M (st_ts3 t0 t1 (IntKind.i64.wrap (t6 + 1)) l0) K) := by
  kernel_rfl
theorem end_ts22_0 {R : Type} (N M : Nat) (K : X → St → Option R) (t11n : Nat) (t12 : Int) (l0 : List Int) (l1 : List Int) : kt_ts22 N (bk_ts19 N M K) (.exit 6) (en_ts22_0 t11n t12 l0 l1)
    = lp_ts19 N M (st_ts19 t11n (IntKind.i64.wrap (t12 - 1)) l0 l1) K := by
  kernel_rfl
theorem end_ts31_0 {R : Type} (N M : Nat) (K : X → St → Option R) (t11n : Nat) (t12 : Int) (t13 : Int) (t14 : Int) (t15 : Int) (l0 : List Int) (l1 : List Int) : kt_ts31 N (bk_ts28 N M K) (.exit 10) (en_ts31_0 t11n t12 t13 t14 t15 l0 l1)
    = lp_ts28 N M (st_ts28 t11n t12 t13 t14 (IntKind.i64.wrap (t15 + 2)) l0 l1) K := by
  kernel_rfl
theorem end_ts19_0 (N : Nat) (t11n : Nat) (l0 : List Int) : kt_ts19 N (kEnd Try.f41 0) (.exit 4) (en_ts19_0 t11n l0)
    = some (.sl 0 0 t11n, [.at true (.int .i64 l0)]) := by
  kernel_rfl
theorem end_ts28_0 {R : Type} (N M : Nat) (K : X → St → Option R) (t11n : Nat) (t12 : Int) (t13 : Int) (l0 : List Int) (l1 : List Int) : kt_ts28 N (bk_ts22 N M K) (.exit 8) (en_ts28_0 t11n t12 t13 l0 l1)
    = lp_ts22 N M (st_ts22 t11n t12 (IntKind.i64.wrap (t13 - 1)) l0 l1) K := by
  kernel_rfl

noncomputable def ce_ts9_0 (N : Nat) (g : Int → Int → Int → List Int → Option (V × H)) (q0 : List Int → Option (V × H)) (t0 : Int) (t1 : Int) (t6 : Int) (t7 : Int) (t8 : Int) (t9 : Int) (l0 : List Int) : Option (V × H) := (match t7 == t1 with | true => (match decide (0 ≤ (IntKind.i64.wrap ((IntKind.i64.wrap ((IntKind.i64.wrap ((IntKind.i64.wrap (t9 + 5)) * 21)) + t8)) + 10) : Int) ∧ (IntKind.i64.wrap ((IntKind.i64.wrap ((IntKind.i64.wrap ((IntKind.i64.wrap (t9 + 5)) * 21)) + t8)) + 10) : Int) < 231) with | true => (match l0[0 + (IntKind.i64.wrap ((IntKind.i64.wrap ((IntKind.i64.wrap ((IntKind.i64.wrap (t9 + 5)) * 21)) + t8)) + 10)).toNat * 1]? with | some e1 => (match decide (0 ≤ (IntKind.i64.wrap ((IntKind.i64.wrap ((IntKind.i64.wrap ((IntKind.i64.wrap (t9 + 5)) * 21)) + t8)) + 10) : Int) ∧ (IntKind.i64.wrap ((IntKind.i64.wrap ((IntKind.i64.wrap ((IntKind.i64.wrap (t9 + 5)) * 21)) + t8)) + 10) : Int) < 231) with | true => (match decide (0 + (IntKind.i64.wrap ((IntKind.i64.wrap ((IntKind.i64.wrap ((IntKind.i64.wrap (t9 + 5)) * 21)) + t8)) + 10)).toNat * 1 < l0.length) with | true => (g t0 t1 (IntKind.i64.wrap (t6 + 1)) (l0.set (0 + (IntKind.i64.wrap ((IntKind.i64.wrap ((IntKind.i64.wrap ((IntKind.i64.wrap (t9 + 5)) * 21)) + t8)) + 10)).toNat * 1) (IntKind.i64.wrap (e1 + 1)))) | false => none) | false => none) | none => none) | false => none) | false => (g t0 t1 (IntKind.i64.wrap (t6 + 1)) l0))
noncomputable def mb_ts9 (N : Nat) (k0 : Int → Int → Int → Int → Int → Int → List Int → Option (V × H)) (rq : Int → Int → Int → Int → Int → Int → Int → List Int → Option (V × H)) : Int → Int → Int → Int → Int → Int → Int → List Int → Option (V × H) := fun (t0 : Int) (t1 : Int) (t6 : Int) (t7 : Int) (t8 : Int) (t9 : Int) (t10 : Int) (l0 : List Int) => (match decide ((t10 : Int) < (IntKind.i64.wrap ((IntKind.i64.wrap (4 * t0)) + 2))) with | true => (match decide (t10 < 0) with | true => none | false => (match (IntKind.i64.wrap (BitVec.ofInt 64 (Int.fdiv t6 (2 ^ (min (Int.toNat t10) 64))) &&& BitVec.ofInt 64 1).toNat) == 0 with | true => (rq t0 t1 t6 t7 t8 t9 (IntKind.i64.wrap (t10 + 1)) l0) | false => (rq t0 t1 t6 (IntKind.i64.wrap (t7 + 1)) (IntKind.i64.wrap (t8 + (IntKind.i64.wrap ((IntKind.i64.wrap (Int.tdiv t10 2)) - t0)))) (IntKind.i64.wrap (t9 + (IntKind.i64.wrap (1 - (IntKind.i64.wrap ((Int.tmod t10 2) * 2)))))) (IntKind.i64.wrap (t10 + 1)) l0))) | false => (k0 t0 t1 t6 t7 t8 t9 l0))
noncomputable def mr_ts9 (N : Nat) (k0 : Int → Int → Int → Int → Int → Int → List Int → Option (V × H)) (M : Nat) : Int → Int → Int → Int → Int → Int → Int → List Int → Option (V × H) := Nat.rec (motive := fun _ => Int → Int → Int → Int → Int → Int → Int → List Int → Option (V × H)) (fun (_ : Int) (_ : Int) (_ : Int) (_ : Int) (_ : Int) (_ : Int) (_ : Int) (_ : List Int) => none) (fun _ rq => mb_ts9 N k0 rq) M
theorem mrs_ts9 (N : Nat) (k0 : Int → Int → Int → Int → Int → Int → List Int → Option (V × H)) (M : Nat) (t0 : Int) (t1 : Int) (t6 : Int) (t7 : Int) (t8 : Int) (t9 : Int) (t10 : Int) (l0 : List Int) : mr_ts9 N k0 (M + 1) t0 t1 t6 t7 t8 t9 t10 l0 = mb_ts9 N k0 (mr_ts9 N k0 M) t0 t1 t6 t7 t8 t9 t10 l0 := rfl
theorem H_ts9 (N : Nat) (Mp : Nat) (K : X → St → Option (V × H)) (g : Int → Int → Int → List Int → Option (V × H)) (q0 : List Int → Option (V × H)) (hg : ∀ (t0 : Int) (t1 : Int) (t6 : Int) (l0 : List Int), lp_ts3 N Mp (st_ts3 t0 t1 t6 l0) K = g t0 t1 t6 l0) (hk0 : ∀ (l0 : List Int), K (.exit 0) (en_ts3_0 l0) = q0 l0) : ∀ (M : Nat) (t0 : Int) (t1 : Int) (t6 : Int) (t7 : Int) (t8 : Int) (t9 : Int) (t10 : Int) (l0 : List Int), lp_ts9 N M (st_ts9 t0 t1 t6 t7 t8 t9 t10 l0) (kt_ts9 N (bk_ts3 N Mp K)) = mr_ts9 N (ce_ts9_0 N g q0) M t0 t1 t6 t7 t8 t9 t10 l0 := by
  have he0 : ∀ (t0 : Int) (t1 : Int) (t6 : Int) (t7 : Int) (t8 : Int) (t9 : Int) (l0 : List Int), kt_ts9 N (bk_ts3 N Mp K) (.exit 2) (en_ts9_0 t0 t1 t6 t7 t8 t9 l0) = ce_ts9_0 N g q0 t0 t1 t6 t7 t8 t9 l0 := by
    intro t0 t1 t6 t7 t8 t9 l0
    rw [end_ts9_0]
    unfold ce_ts9_0
    cases hz1 : (t7 == t1)
    case true =>
      cases hz2 : (decide (0 ≤ (IntKind.i64.wrap ((IntKind.i64.wrap ((IntKind.i64.wrap ((IntKind.i64.wrap (t9 + 5)) * 21)) + t8)) + 10) : Int) ∧ (IntKind.i64.wrap ((IntKind.i64.wrap ((IntKind.i64.wrap ((IntKind.i64.wrap (t9 + 5)) * 21)) + t8)) + 10) : Int) < 231))
      case true =>
        cases hz3 : (l0[0 + (IntKind.i64.wrap ((IntKind.i64.wrap ((IntKind.i64.wrap ((IntKind.i64.wrap (t9 + 5)) * 21)) + t8)) + 10)).toNat * 1]?)
        case none =>
          rfl
        case some e1 =>
          try dsimp only
          cases hz4 : (decide (0 + (IntKind.i64.wrap ((IntKind.i64.wrap ((IntKind.i64.wrap ((IntKind.i64.wrap (t9 + 5)) * 21)) + t8)) + 10)).toNat * 1 < l0.length))
          case true =>
            try dsimp only
            exact hg _ _ _ _
          case false =>
            rfl
      case false =>
        rfl
    case false =>
      try dsimp only
      exact hg _ _ _ _
  intro M
  induction M with
  | zero => intros; rfl
  | succ M ih =>
    intro t0 t1 t6 t7 t8 t9 t10 l0
    rw [step_ts9]
    rw [mrs_ts9]
    unfold mb_ts9
    cases hq1 : (decide ((t10 : Int) < (IntKind.i64.wrap ((IntKind.i64.wrap (4 * t0)) + 2))))
    case true =>
      cases hq2 : (decide (t10 < 0))
      case true =>
        rfl
      case false =>
        cases hq3 : ((IntKind.i64.wrap (BitVec.ofInt 64 (Int.fdiv t6 (2 ^ (min (Int.toNat t10) 64))) &&& BitVec.ofInt 64 1).toNat) == 0)
        case true =>
          try dsimp only
          exact ih _ _ _ _ _ _ _ _
        case false =>
          try dsimp only
          exact ih _ _ _ _ _ _ _ _
    case false =>
      try dsimp only
      exact he0 _ _ _ _ _ _ _
noncomputable def ce_ts31_0 (N : Nat) (g : Nat → Int → Int → Int → Int → List Int → List Int → Option (V × H)) (q0 : Nat → Int → Int → List Int → List Int → Option (V × H)) (t11n : Nat) (t12 : Int) (t13 : Int) (t14 : Int) (t15 : Int) (l0 : List Int) (l1 : List Int) : Option (V × H) := (g t11n t12 t13 t14 (IntKind.i64.wrap (t15 + 2)) l0 l1)
noncomputable def mb_ts31 (N : Nat) (k0 : Nat → Int → Int → Int → Int → List Int → List Int → Option (V × H)) (rq : Nat → Int → Int → Int → Int → Int → List Int → List Int → Option (V × H)) : Nat → Int → Int → Int → Int → Int → List Int → List Int → Option (V × H) := fun (t11n : Nat) (t12 : Int) (t13 : Int) (t14 : Int) (t15 : Int) (t16 : Int) (l0 : List Int) (l1 : List Int) => (match decide ((t16 : Int) ≤ t13) with | true => (match decide (0 ≤ (IntKind.i64.wrap ((IntKind.i64.wrap ((IntKind.i64.wrap ((IntKind.i64.wrap (t15 + 5)) * 21)) + t16)) + 10) : Int) ∧ (IntKind.i64.wrap ((IntKind.i64.wrap ((IntKind.i64.wrap ((IntKind.i64.wrap (t15 + 5)) * 21)) + t16)) + 10) : Int) < 231) with | true => (match l0[0 + (IntKind.i64.wrap ((IntKind.i64.wrap ((IntKind.i64.wrap ((IntKind.i64.wrap (t15 + 5)) * 21)) + t16)) + 10)).toNat * 1]? with | some e1 => (match decide (0 ≤ (IntKind.i64.wrap ((IntKind.i64.wrap ((IntKind.i64.wrap ((IntKind.i64.wrap (t15 + 5)) * 21)) + t16)) + 10) : Int) ∧ (IntKind.i64.wrap ((IntKind.i64.wrap ((IntKind.i64.wrap ((IntKind.i64.wrap (t15 + 5)) * 21)) + t16)) + 10) : Int) < 231) with | true => (match decide (0 + (IntKind.i64.wrap ((IntKind.i64.wrap ((IntKind.i64.wrap ((IntKind.i64.wrap (t15 + 5)) * 21)) + t16)) + 10)).toNat * 1 < l0.length) with | true => (rq t11n t12 t13 t14 t15 (IntKind.i64.wrap (t16 + 1)) (l0.set (0 + (IntKind.i64.wrap ((IntKind.i64.wrap ((IntKind.i64.wrap ((IntKind.i64.wrap (t15 + 5)) * 21)) + t16)) + 10)).toNat * 1) (IntKind.i64.wrap (e1 - t14))) l1) | false => none) | false => none) | none => none) | false => none) | false => (k0 t11n t12 t13 t14 t15 l0 l1))
noncomputable def mr_ts31 (N : Nat) (k0 : Nat → Int → Int → Int → Int → List Int → List Int → Option (V × H)) (M : Nat) : Nat → Int → Int → Int → Int → Int → List Int → List Int → Option (V × H) := Nat.rec (motive := fun _ => Nat → Int → Int → Int → Int → Int → List Int → List Int → Option (V × H)) (fun (_ : Nat) (_ : Int) (_ : Int) (_ : Int) (_ : Int) (_ : Int) (_ : List Int) (_ : List Int) => none) (fun _ rq => mb_ts31 N k0 rq) M
theorem mrs_ts31 (N : Nat) (k0 : Nat → Int → Int → Int → Int → List Int → List Int → Option (V × H)) (M : Nat) (t11n : Nat) (t12 : Int) (t13 : Int) (t14 : Int) (t15 : Int) (t16 : Int) (l0 : List Int) (l1 : List Int) : mr_ts31 N k0 (M + 1) t11n t12 t13 t14 t15 t16 l0 l1 = mb_ts31 N k0 (mr_ts31 N k0 M) t11n t12 t13 t14 t15 t16 l0 l1 := rfl
theorem H_ts31 (N : Nat) (Mp : Nat) (K : X → St → Option (V × H)) (g : Nat → Int → Int → Int → Int → List Int → List Int → Option (V × H)) (q0 : Nat → Int → Int → List Int → List Int → Option (V × H)) (hg : ∀ (t11n : Nat) (t12 : Int) (t13 : Int) (t14 : Int) (t15 : Int) (l0 : List Int) (l1 : List Int), lp_ts28 N Mp (st_ts28 t11n t12 t13 t14 t15 l0 l1) K = g t11n t12 t13 t14 t15 l0 l1) (hk0 : ∀ (t11n : Nat) (t12 : Int) (t13 : Int) (l0 : List Int) (l1 : List Int), K (.exit 8) (en_ts28_0 t11n t12 t13 l0 l1) = q0 t11n t12 t13 l0 l1) : ∀ (M : Nat) (t11n : Nat) (t12 : Int) (t13 : Int) (t14 : Int) (t15 : Int) (t16 : Int) (l0 : List Int) (l1 : List Int), lp_ts31 N M (st_ts31 t11n t12 t13 t14 t15 t16 l0 l1) (kt_ts31 N (bk_ts28 N Mp K)) = mr_ts31 N (ce_ts31_0 N g q0) M t11n t12 t13 t14 t15 t16 l0 l1 := by
  have he0 : ∀ (t11n : Nat) (t12 : Int) (t13 : Int) (t14 : Int) (t15 : Int) (l0 : List Int) (l1 : List Int), kt_ts31 N (bk_ts28 N Mp K) (.exit 10) (en_ts31_0 t11n t12 t13 t14 t15 l0 l1) = ce_ts31_0 N g q0 t11n t12 t13 t14 t15 l0 l1 := by
    intro t11n t12 t13 t14 t15 l0 l1
    rw [end_ts31_0]
    unfold ce_ts31_0
    try dsimp only
    exact hg _ _ _ _ _ _ _
  intro M
  induction M with
  | zero => intros; rfl
  | succ M ih =>
    intro t11n t12 t13 t14 t15 t16 l0 l1
    rw [step_ts31]
    rw [mrs_ts31]
    unfold mb_ts31
    cases hq1 : (decide ((t16 : Int) ≤ t13))
    case true =>
      cases hq2 : (decide (0 ≤ (IntKind.i64.wrap ((IntKind.i64.wrap ((IntKind.i64.wrap ((IntKind.i64.wrap (t15 + 5)) * 21)) + t16)) + 10) : Int) ∧ (IntKind.i64.wrap ((IntKind.i64.wrap ((IntKind.i64.wrap ((IntKind.i64.wrap (t15 + 5)) * 21)) + t16)) + 10) : Int) < 231))
      case true =>
        cases hq3 : (l0[0 + (IntKind.i64.wrap ((IntKind.i64.wrap ((IntKind.i64.wrap ((IntKind.i64.wrap (t15 + 5)) * 21)) + t16)) + 10)).toNat * 1]?)
        case none =>
          rfl
        case some e1 =>
          try dsimp only
          cases hq4 : (decide (0 + (IntKind.i64.wrap ((IntKind.i64.wrap ((IntKind.i64.wrap ((IntKind.i64.wrap (t15 + 5)) * 21)) + t16)) + 10)).toNat * 1 < l0.length))
          case true =>
            try dsimp only
            exact ih _ _ _ _ _ _ _ _
          case false =>
            rfl
      case false =>
        rfl
    case false =>
      try dsimp only
      exact he0 _ _ _ _ _ _ _
noncomputable def ce_ts28_0 (N : Nat) (g : Nat → Int → Int → List Int → List Int → Option (V × H)) (q0 : Nat → Int → List Int → List Int → Option (V × H)) (t11n : Nat) (t12 : Int) (t13 : Int) (l0 : List Int) (l1 : List Int) : Option (V × H) := (g t11n t12 (IntKind.i64.wrap (t13 - 1)) l0 l1)
noncomputable def mb_ts28 (N : Nat) (k0 : Nat → Int → Int → List Int → List Int → Option (V × H)) (rq : Nat → Int → Int → Int → Int → List Int → List Int → Option (V × H)) : Nat → Int → Int → Int → Int → List Int → List Int → Option (V × H) := fun (t11n : Nat) (t12 : Int) (t13 : Int) (t14 : Int) (t15 : Int) (l0 : List Int) (l1 : List Int) => (match decide ((t15 : Int) ≤ t12) with | true => (mr_ts31 N (ce_ts31_0 N (fun t11n t12 t13 t14 t15 l0 l1 => rq t11n t12 t13 t14 t15 l0 l1) k0) N t11n t12 t13 t14 t15 (IntKind.i64.wrap (0 - t13)) l0 l1) | false => (k0 t11n t12 t13 l0 l1))
noncomputable def mr_ts28 (N : Nat) (k0 : Nat → Int → Int → List Int → List Int → Option (V × H)) (M : Nat) : Nat → Int → Int → Int → Int → List Int → List Int → Option (V × H) := Nat.rec (motive := fun _ => Nat → Int → Int → Int → Int → List Int → List Int → Option (V × H)) (fun (_ : Nat) (_ : Int) (_ : Int) (_ : Int) (_ : Int) (_ : List Int) (_ : List Int) => none) (fun _ rq => mb_ts28 N k0 rq) M
theorem mrs_ts28 (N : Nat) (k0 : Nat → Int → Int → List Int → List Int → Option (V × H)) (M : Nat) (t11n : Nat) (t12 : Int) (t13 : Int) (t14 : Int) (t15 : Int) (l0 : List Int) (l1 : List Int) : mr_ts28 N k0 (M + 1) t11n t12 t13 t14 t15 l0 l1 = mb_ts28 N k0 (mr_ts28 N k0 M) t11n t12 t13 t14 t15 l0 l1 := rfl
theorem H_ts28 (N : Nat) (Mp : Nat) (K : X → St → Option (V × H)) (g : Nat → Int → Int → List Int → List Int → Option (V × H)) (q0 : Nat → Int → List Int → List Int → Option (V × H)) (hg : ∀ (t11n : Nat) (t12 : Int) (t13 : Int) (l0 : List Int) (l1 : List Int), lp_ts22 N Mp (st_ts22 t11n t12 t13 l0 l1) K = g t11n t12 t13 l0 l1) (hk0 : ∀ (t11n : Nat) (t12 : Int) (l0 : List Int) (l1 : List Int), K (.exit 6) (en_ts22_0 t11n t12 l0 l1) = q0 t11n t12 l0 l1) : ∀ (M : Nat) (t11n : Nat) (t12 : Int) (t13 : Int) (t14 : Int) (t15 : Int) (l0 : List Int) (l1 : List Int), lp_ts28 N M (st_ts28 t11n t12 t13 t14 t15 l0 l1) (kt_ts28 N (bk_ts22 N Mp K)) = mr_ts28 N (ce_ts28_0 N g q0) M t11n t12 t13 t14 t15 l0 l1 := by
  have he0 : ∀ (t11n : Nat) (t12 : Int) (t13 : Int) (l0 : List Int) (l1 : List Int), kt_ts28 N (bk_ts22 N Mp K) (.exit 8) (en_ts28_0 t11n t12 t13 l0 l1) = ce_ts28_0 N g q0 t11n t12 t13 l0 l1 := by
    intro t11n t12 t13 l0 l1
    rw [end_ts28_0]
    unfold ce_ts28_0
    try dsimp only
    exact hg _ _ _ _ _
  intro M
  induction M with
  | zero => intros; rfl
  | succ M ih =>
    intro t11n t12 t13 t14 t15 l0 l1
    rw [step_ts28]
    have hc31 := H_ts31 N M (kt_ts28 N (bk_ts22 N Mp K)) (fun t11n t12 t13 t14 t15 l0 l1 => mr_ts28 N (ce_ts28_0 N g q0) M t11n t12 t13 t14 t15 l0 l1) (ce_ts28_0 N g q0) (fun t11n t12 t13 t14 t15 l0 l1 => ih t11n t12 t13 t14 t15 l0 l1) he0
    rw [mrs_ts28]
    unfold mb_ts28
    cases hq1 : (decide ((t15 : Int) ≤ t12))
    case true =>
      try dsimp only
      exact hc31 N _ _ _ _ _ _ _ _
    case false =>
      try dsimp only
      exact he0 _ _ _ _ _
noncomputable def ce_ts22_0 (N : Nat) (g : Nat → Int → List Int → List Int → Option (V × H)) (q0 : Nat → List Int → Option (V × H)) (t11n : Nat) (t12 : Int) (l0 : List Int) (l1 : List Int) : Option (V × H) := (g t11n (IntKind.i64.wrap (t12 - 1)) l0 l1)
noncomputable def mb_ts22 (N : Nat) (k0 : Nat → Int → List Int → List Int → Option (V × H)) (rq : Nat → Int → Int → List Int → List Int → Option (V × H)) : Nat → Int → Int → List Int → List Int → Option (V × H) := fun (t11n : Nat) (t12 : Int) (t13 : Int) (l0 : List Int) (l1 : List Int) => (match decide ((t13 : Int) ≥ 0) with | true => (match decide (0 ≤ (IntKind.i64.wrap ((IntKind.i64.wrap ((IntKind.i64.wrap ((IntKind.i64.wrap (t12 + 5)) * 21)) + t13)) + 10) : Int) ∧ (IntKind.i64.wrap ((IntKind.i64.wrap ((IntKind.i64.wrap ((IntKind.i64.wrap (t12 + 5)) * 21)) + t13)) + 10) : Int) < 231) with | true => (match l0[0 + (IntKind.i64.wrap ((IntKind.i64.wrap ((IntKind.i64.wrap ((IntKind.i64.wrap (t12 + 5)) * 21)) + t13)) + 10)).toNat * 1]? with | some e1 => (match e1 == 0 with | true => (rq t11n t12 (IntKind.i64.wrap (t13 - 1)) l0 l1) | false => (match apok true t11n 1 l1.length 1 (t11n + 3) 8 with | true => (mr_ts28 N (ce_ts28_0 N (fun t11n t12 t13 l0 l1 => rq t11n t12 t13 l0 l1) k0) N (t11n + 3) t12 t13 e1 (IntKind.i64.wrap (0 - t12)) l0 (l1 ++ [t13, t12, e1])) | false => none)) | none => none) | false => none) | false => (k0 t11n t12 l0 l1))
noncomputable def mr_ts22 (N : Nat) (k0 : Nat → Int → List Int → List Int → Option (V × H)) (M : Nat) : Nat → Int → Int → List Int → List Int → Option (V × H) := Nat.rec (motive := fun _ => Nat → Int → Int → List Int → List Int → Option (V × H)) (fun (_ : Nat) (_ : Int) (_ : Int) (_ : List Int) (_ : List Int) => none) (fun _ rq => mb_ts22 N k0 rq) M
theorem mrs_ts22 (N : Nat) (k0 : Nat → Int → List Int → List Int → Option (V × H)) (M : Nat) (t11n : Nat) (t12 : Int) (t13 : Int) (l0 : List Int) (l1 : List Int) : mr_ts22 N k0 (M + 1) t11n t12 t13 l0 l1 = mb_ts22 N k0 (mr_ts22 N k0 M) t11n t12 t13 l0 l1 := rfl
theorem H_ts22 (N : Nat) (Mp : Nat) (K : X → St → Option (V × H)) (g : Nat → Int → List Int → List Int → Option (V × H)) (q0 : Nat → List Int → Option (V × H)) (hg : ∀ (t11n : Nat) (t12 : Int) (l0 : List Int) (l1 : List Int), lp_ts19 N Mp (st_ts19 t11n t12 l0 l1) K = g t11n t12 l0 l1) (hk0 : ∀ (t11n : Nat) (l0 : List Int), K (.exit 4) (en_ts19_0 t11n l0) = q0 t11n l0) : ∀ (M : Nat) (t11n : Nat) (t12 : Int) (t13 : Int) (l0 : List Int) (l1 : List Int), lp_ts22 N M (st_ts22 t11n t12 t13 l0 l1) (kt_ts22 N (bk_ts19 N Mp K)) = mr_ts22 N (ce_ts22_0 N g q0) M t11n t12 t13 l0 l1 := by
  have he0 : ∀ (t11n : Nat) (t12 : Int) (l0 : List Int) (l1 : List Int), kt_ts22 N (bk_ts19 N Mp K) (.exit 6) (en_ts22_0 t11n t12 l0 l1) = ce_ts22_0 N g q0 t11n t12 l0 l1 := by
    intro t11n t12 l0 l1
    rw [end_ts22_0]
    unfold ce_ts22_0
    try dsimp only
    exact hg _ _ _ _
  intro M
  induction M with
  | zero => intros; rfl
  | succ M ih =>
    intro t11n t12 t13 l0 l1
    rw [step_ts22]
    have hc28 := H_ts28 N M (kt_ts22 N (bk_ts19 N Mp K)) (fun t11n t12 t13 l0 l1 => mr_ts22 N (ce_ts22_0 N g q0) M t11n t12 t13 l0 l1) (ce_ts22_0 N g q0) (fun t11n t12 t13 l0 l1 => ih t11n t12 t13 l0 l1) he0
    rw [mrs_ts22]
    unfold mb_ts22
    cases hq1 : (decide ((t13 : Int) ≥ 0))
    case true =>
      cases hq2 : (decide (0 ≤ (IntKind.i64.wrap ((IntKind.i64.wrap ((IntKind.i64.wrap ((IntKind.i64.wrap (t12 + 5)) * 21)) + t13)) + 10) : Int) ∧ (IntKind.i64.wrap ((IntKind.i64.wrap ((IntKind.i64.wrap ((IntKind.i64.wrap (t12 + 5)) * 21)) + t13)) + 10) : Int) < 231))
      case true =>
        cases hq3 : (l0[0 + (IntKind.i64.wrap ((IntKind.i64.wrap ((IntKind.i64.wrap ((IntKind.i64.wrap (t12 + 5)) * 21)) + t13)) + 10)).toNat * 1]?)
        case none =>
          rfl
        case some e1 =>
          try dsimp only
          cases hq4 : (e1 == 0)
          case true =>
            try dsimp only
            exact ih _ _ _ _ _
          case false =>
            cases hq5 : (apok true t11n 1 l1.length 1 (t11n + 3) 8)
            case true =>
              try dsimp only
              exact hc28 N _ _ _ _ _ _ _
            case false =>
              rfl
      case false =>
        rfl
    case false =>
      try dsimp only
      exact he0 _ _ _ _
noncomputable def ce_ts19_0 (N : Nat) (t11n : Nat) (l0 : List Int) : Option (V × H) := some (.sl 0 0 t11n, [.at true (.int .i64 l0)])
noncomputable def mb_ts19 (N : Nat) (k0 : Nat → List Int → Option (V × H)) (rq : Nat → Int → List Int → List Int → Option (V × H)) : Nat → Int → List Int → List Int → Option (V × H) := fun (t11n : Nat) (t12 : Int) (l0 : List Int) (l1 : List Int) => (match decide ((t12 : Int) ≥ 0) with | true => (mr_ts22 N (ce_ts22_0 N (fun t11n t12 l0 l1 => rq t11n t12 l0 l1) k0) N t11n t12 10 l0 l1) | false => (k0 t11n l1))
noncomputable def mr_ts19 (N : Nat) (k0 : Nat → List Int → Option (V × H)) (M : Nat) : Nat → Int → List Int → List Int → Option (V × H) := Nat.rec (motive := fun _ => Nat → Int → List Int → List Int → Option (V × H)) (fun (_ : Nat) (_ : Int) (_ : List Int) (_ : List Int) => none) (fun _ rq => mb_ts19 N k0 rq) M
theorem mrs_ts19 (N : Nat) (k0 : Nat → List Int → Option (V × H)) (M : Nat) (t11n : Nat) (t12 : Int) (l0 : List Int) (l1 : List Int) : mr_ts19 N k0 (M + 1) t11n t12 l0 l1 = mb_ts19 N k0 (mr_ts19 N k0 M) t11n t12 l0 l1 := rfl
theorem H_ts19 (N : Nat) : ∀ (M : Nat) (t11n : Nat) (t12 : Int) (l0 : List Int) (l1 : List Int), lp_ts19 N M (st_ts19 t11n t12 l0 l1) (kt_ts19 N (kEnd Try.f41 0)) = mr_ts19 N (ce_ts19_0 N) M t11n t12 l0 l1 := by
  have he0 : ∀ (t11n : Nat) (l0 : List Int), kt_ts19 N (kEnd Try.f41 0) (.exit 4) (en_ts19_0 t11n l0) = ce_ts19_0 N t11n l0 := by
    intro t11n l0
    rw [end_ts19_0]
    unfold ce_ts19_0
    rfl
  intro M
  induction M with
  | zero => intros; rfl
  | succ M ih =>
    intro t11n t12 l0 l1
    rw [step_ts19]
    have hc22 := H_ts22 N M (kt_ts19 N (kEnd Try.f41 0)) (fun t11n t12 l0 l1 => mr_ts19 N (ce_ts19_0 N) M t11n t12 l0 l1) (ce_ts19_0 N) (fun t11n t12 l0 l1 => ih t11n t12 l0 l1) he0
    rw [mrs_ts19]
    unfold mb_ts19
    cases hq1 : (decide ((t12 : Int) ≥ 0))
    case true =>
      try dsimp only
      exact hc22 N _ _ _ _ _
    case false =>
      try dsimp only
      exact he0 _ _
noncomputable def ce_ts3_0 (N : Nat) (l0 : List Int) : Option (V × H) := (mr_ts19 N (ce_ts19_0 N) N 0 5 l0 [])
noncomputable def mb_ts3 (N : Nat) (k0 : List Int → Option (V × H)) (rq : Int → Int → Int → List Int → Option (V × H)) : Int → Int → Int → List Int → Option (V × H) := fun (t0 : Int) (t1 : Int) (t6 : Int) (l0 : List Int) => (match decide (IntKind.i64.wrap ((IntKind.i64.wrap (4 * t0)) + 2) < 0) with | true => none | false => (match decide ((t6 : Int) < (IntKind.i64.wrap (1 * 2 ^ (min (Int.toNat (IntKind.i64.wrap ((IntKind.i64.wrap (4 * t0)) + 2))) 64)))) with | true => (mr_ts9 N (ce_ts9_0 N (fun t0 t1 t6 l0 => rq t0 t1 t6 l0) k0) N t0 t1 t6 0 0 0 0 l0) | false => (k0 l0)))
noncomputable def mr_ts3 (N : Nat) (k0 : List Int → Option (V × H)) (M : Nat) : Int → Int → Int → List Int → Option (V × H) := Nat.rec (motive := fun _ => Int → Int → Int → List Int → Option (V × H)) (fun (_ : Int) (_ : Int) (_ : Int) (_ : List Int) => none) (fun _ rq => mb_ts3 N k0 rq) M
theorem mrs_ts3 (N : Nat) (k0 : List Int → Option (V × H)) (M : Nat) (t0 : Int) (t1 : Int) (t6 : Int) (l0 : List Int) : mr_ts3 N k0 (M + 1) t0 t1 t6 l0 = mb_ts3 N k0 (mr_ts3 N k0 M) t0 t1 t6 l0 := rfl
theorem H_ts3 (N : Nat) : ∀ (M : Nat) (t0 : Int) (t1 : Int) (t6 : Int) (l0 : List Int), lp_ts3 N M (st_ts3 t0 t1 t6 l0) (kt_ts3 N (kEnd Try.f41 0)) = mr_ts3 N (ce_ts3_0 N) M t0 t1 t6 l0 := by
  have he0 : ∀ (l0 : List Int), kt_ts3 N (kEnd Try.f41 0) (.exit 0) (en_ts3_0 l0) = ce_ts3_0 N l0 := by
    intro l0
    rw [end_ts3_0]
    unfold ce_ts3_0
    try dsimp only
    exact H_ts19 N N _ _ _ _
  intro M
  induction M with
  | zero => intros; rfl
  | succ M ih =>
    intro t0 t1 t6 l0
    rw [step_ts3]
    have hc9 := H_ts9 N M (kt_ts3 N (kEnd Try.f41 0)) (fun t0 t1 t6 l0 => mr_ts3 N (ce_ts3_0 N) M t0 t1 t6 l0) (ce_ts3_0 N) (fun t0 t1 t6 l0 => ih t0 t1 t6 l0) he0
    rw [mrs_ts3]
    unfold mb_ts3
    cases hq1 : (decide (IntKind.i64.wrap ((IntKind.i64.wrap (4 * t0)) + 2) < 0))
    case true =>
      rfl
    case false =>
      cases hq2 : (decide ((t6 : Int) < (IntKind.i64.wrap (1 * 2 ^ (min (Int.toNat (IntKind.i64.wrap ((IntKind.i64.wrap (4 * t0)) + 2))) 64)))))
      case true =>
        try dsimp only
        exact hc9 N _ _ _ _ _ _ _ _
      case false =>
        try dsimp only
        exact he0 _
noncomputable def md_ts (N : Nat) (l : Int) (n : Int) : Option (V × H) := (mr_ts3 N (ce_ts3_0 N) N l n 0 [0, 0, 0, 0, 0, 0, 0, 0, 0, 0, 0, 0, 0, 0, 0, 0, 0, 0, 0, 0, 0, 0, 0, 0, 0, 0, 0, 0, 0, 0, 0, 0, 0, 0, 0, 0, 0, 0, 0, 0, 0, 0, 0, 0, 0, 0, 0, 0, 0, 0, 0, 0, 0, 0, 0, 0, 0, 0, 0, 0, 0, 0, 0, 0, 0, 0, 0, 0, 0, 0, 0, 0, 0, 0, 0, 0, 0, 0, 0, 0, 0, 0, 0, 0, 0, 0, 0, 0, 0, 0, 0, 0, 0, 0, 0, 0, 0, 0, 0, 0, 0, 0, 0, 0, 0, 0, 0, 0, 0, 0, 0, 0, 0, 0, 0, 0, 0, 0, 0, 0, 0, 0, 0, 0, 0, 0, 0, 0, 0, 0, 0, 0, 0, 0, 0, 0, 0, 0, 0, 0, 0, 0, 0, 0, 0, 0, 0, 0, 0, 0, 0, 0, 0, 0, 0, 0, 0, 0, 0, 0, 0, 0, 0, 0, 0, 0, 0, 0, 0, 0, 0, 0, 0, 0, 0, 0, 0, 0, 0, 0, 0, 0, 0, 0, 0, 0, 0, 0, 0, 0, 0, 0, 0, 0, 0, 0, 0, 0, 0, 0, 0, 0, 0, 0, 0, 0, 0, 0, 0, 0, 0, 0, 0, 0, 0, 0, 0, 0, 0, 0, 0, 0, 0, 0, 0, 0, 0, 0, 0, 0, 0])
theorem mdl_ts (N : Nat) (l : Int) (n : Int) : run ty tab_ts an_ts N Try.f41 [.int .i64 l, .int .i64 n] [] = md_ts N l n := by
  rw [run_ts]
  unfold md_ts
  first | (simp only [H_ts3 N N]; done) | (simp only [H_ts3 N N]; kernel_rfl) | rfl

end Go.Proofs.Ytbbggpcbnahgiaa.Ab
