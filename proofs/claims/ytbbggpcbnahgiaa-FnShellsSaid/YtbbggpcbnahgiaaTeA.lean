/- The terms of a shell: the walk beside the map. Only lemmas. Printed by gen_terms.py. -/
import Derived.Test.YtbbggpcbnahgiaaMrD
import Derived.Test.YtbbggpcbnahgiaaLib
namespace Go.Proofs.Ytbbggpcbnahgiaa.Ab
set_option linter.unusedVariables false
set_option linter.unusedSimpArgs false
open Go
abbrev kEndM (fn : Func) (k : Nat) : X → St → Option (V × H) := fun x st => match x with | .exit _ => none | _ => finish ty fn k ⟨st.t, hide st.h⟩
abbrev kSeqM {R : Type} (fns : Fns) (an : Ann) (gs : Gs) (N k : Nat) (c : Code) (K : X → St → Option R) : X → St → Option R := fun x st => match x with | .norm => execM ty fns an gs N k c st K | x => K x st
def an_te : Ann := ⟨fun r => if r = 4 then some ([0, 1, 5, 6, 24, 25], [0, 1, 5]) else if r = 8 then some ([0, 1, 5, 6, 7, 8, 9, 10, 24, 25, 28, 29], [0, 1, 5, 6, 8, 9, 10, 24, 25]) else if r = 20 then some ([0, 1, 5, 12, 13], [12]) else if r = 23 then some ([0, 1, 5, 12, 13, 14], [0, 1, 5, 12, 13]) else if r = 28 then some ([0, 1, 5, 12, 13, 14, 15, 16], [0, 1, 5, 12, 13, 14, 15]) else if r = 31 then some ([0, 1, 5, 12, 13, 14, 15, 16, 17], [0, 1, 5, 12, 13, 14, 15, 16]) else none, fun _ _ => .quiet⟩
def tab_te : Fns := tabT []
theorem tabok_te : ∀ f, FnT Try.prog f (tab_te f) := tabT_nil
def st_te4 (t0 : Int) (t1 : Int) (t6 : Int) (t24 : Int) (t25 : Int) (l0 : List ((Int × Int) × Int)) : St := ⟨(.int .i64 t0 :: .int .i64 t1 :: .any :: .any :: .any :: .mp 0 :: .int .i64 t6 :: (anys 17 (.int .i64 t24 :: .int .i64 t25 :: (anys 88 [])))), [.at false (.mp l0)]⟩
abbrev kp_te4 : Option (List Nat × List Nat) := some ([0, 1, 5, 6, 24, 25], [0, 1, 5])
noncomputable def lp_te4 {R : Type} (N M : Nat) (s : St) (K : X → St → Option R) : Option R := loopH 0 kp_te4 (fun st K => execM ty tab_te an_te gsT N 0 (atOf [true, true, true, false, true, false, false] Try.f39) st K) M s K
noncomputable def bk_te4 {R : Type} (N M : Nat) (K : X → St → Option R) : X → St → Option R := fun x st => match x with | .norm => tidyK 0 (kp_te4.map (·.1)) st fun st => lp_te4 N M st K | x => tidyK 0 (kp_te4.map (·.2)) st fun st => K x st
noncomputable def kt_te4 {R : Type} (N : Nat) (K : X → St → Option R) : X → St → Option R := kBlkR 0 (kSeqM tab_te an_te gsT N 0 (atOf [true, true, true, true] Try.f39) (K))
def st_te8 (t0 : Int) (t1 : Int) (t6 : Int) (t7 : Int) (t8 : Int) (t9 : Int) (t10 : Int) (t24 : Int) (t29 : Int) (l0 : List ((Int × Int) × Int)) : St := ⟨(.int .i64 t0 :: .int .i64 t1 :: .any :: .any :: .any :: .mp 0 :: .int .i64 t6 :: .int .i64 t7 :: .int .i64 t8 :: .int .i64 t9 :: .int .i64 t10 :: (anys 13 (.int .i64 t24 :: .int .i64 t7 :: .any :: .any :: .int .i64 t6 :: .int .i64 t29 :: (anys 84 [])))), [.at false (.mp l0)]⟩
abbrev kp_te8 : Option (List Nat × List Nat) := some ([0, 1, 5, 6, 7, 8, 9, 10, 24, 25, 28, 29], [0, 1, 5, 6, 8, 9, 10, 24, 25])
noncomputable def lp_te8 {R : Type} (N M : Nat) (s : St) (K : X → St → Option R) : Option R := loopH 0 kp_te8 (fun st K => execM ty tab_te an_te gsT N 0 (atOf [true, true, true, false, true, false, false, true, true, false, false, true, true, false, true, false, false] Try.f39) st K) M s K
noncomputable def bk_te8 {R : Type} (N M : Nat) (K : X → St → Option R) : X → St → Option R := fun x st => match x with | .norm => tidyK 0 (kp_te8.map (·.1)) st fun st => lp_te8 N M st K | x => tidyK 0 (kp_te8.map (·.2)) st fun st => K x st
noncomputable def kt_te8 {R : Type} (N : Nat) (K : X → St → Option R) : X → St → Option R := kBlkR 2 (kSeqM tab_te an_te gsT N 0 (atOf [true, true, true, false, true, false, false, true, true, false, false, true, true, true] Try.f39) (kBlkR 1 (kSeqM tab_te an_te gsT N 0 (atOf [true, true, true, false, true, false, false, true, true, true] Try.f39) (K))))
def st_te20 (t0 : Int) (t1 : Int) (t12n : Nat) (t13 : Int) (l0 : List ((Int × Int) × Int)) (l1 : List Int) : St := ⟨(.int .i64 t0 :: .int .i64 t1 :: .any :: .any :: .any :: .mp 0 :: (anys 6 (.sl 1 0 t12n :: .int .i64 t13 :: (anys 100 [])))), [.at false (.mp l0), .at true (.int .i64 l1)]⟩
abbrev kp_te20 : Option (List Nat × List Nat) := some ([0, 1, 5, 12, 13], [12])
noncomputable def lp_te20 {R : Type} (N M : Nat) (s : St) (K : X → St → Option R) : Option R := loopH 0 kp_te20 (fun st K => execM ty tab_te an_te gsT N 0 (atOf [true, true, true, true, true, false, true, false, false] Try.f39) st K) M s K
noncomputable def bk_te20 {R : Type} (N M : Nat) (K : X → St → Option R) : X → St → Option R := fun x st => match x with | .norm => tidyK 0 (kp_te20.map (·.1)) st fun st => lp_te20 N M st K | x => tidyK 0 (kp_te20.map (·.2)) st fun st => K x st
noncomputable def kt_te20 {R : Type} (N : Nat) (K : X → St → Option R) : X → St → Option R := kBlkR 4 (kSeqM tab_te an_te gsT N 0 (atOf [true, true, true, true, true, true] Try.f39) (K))
def st_te23 (t0 : Int) (t1 : Int) (t12n : Nat) (t13 : Int) (t14 : Int) (l0 : List ((Int × Int) × Int)) (l1 : List Int) : St := ⟨(.int .i64 t0 :: .int .i64 t1 :: .any :: .any :: .any :: .mp 0 :: (anys 6 (.sl 1 0 t12n :: .int .i64 t13 :: .int .i64 t14 :: (anys 99 [])))), [.at false (.mp l0), .at true (.int .i64 l1)]⟩
abbrev kp_te23 : Option (List Nat × List Nat) := some ([0, 1, 5, 12, 13, 14], [0, 1, 5, 12, 13])
noncomputable def lp_te23 {R : Type} (N M : Nat) (s : St) (K : X → St → Option R) : Option R := loopH 0 kp_te23 (fun st K => execM ty tab_te an_te gsT N 0 (atOf [true, true, true, true, true, false, true, false, false, true, false, false, true, false, false] Try.f39) st K) M s K
noncomputable def bk_te23 {R : Type} (N M : Nat) (K : X → St → Option R) : X → St → Option R := fun x st => match x with | .norm => tidyK 0 (kp_te23.map (·.1)) st fun st => lp_te23 N M st K | x => tidyK 0 (kp_te23.map (·.2)) st fun st => K x st
noncomputable def kt_te23 {R : Type} (N : Nat) (K : X → St → Option R) : X → St → Option R := kBlkR 6 (kBlkR 5 (kSeqM tab_te an_te gsT N 0 (atOf [true, true, true, true, true, false, true, false, false, true, true] Try.f39) (K)))
def st_te28 (t0 : Int) (t1 : Int) (t12n : Nat) (t13 : Int) (t14 : Int) (t15 : Int) (t16 : Int) (l0 : List ((Int × Int) × Int)) (l1 : List Int) : St := ⟨(.int .i64 t0 :: .int .i64 t1 :: .any :: .any :: .any :: .mp 0 :: (anys 6 (.sl 1 0 t12n :: .int .i64 t13 :: .int .i64 t14 :: .int .i64 t15 :: .int .i64 t16 :: (anys 97 [])))), [.at false (.mp l0), .at true (.int .i64 l1)]⟩
abbrev kp_te28 : Option (List Nat × List Nat) := some ([0, 1, 5, 12, 13, 14, 15, 16], [0, 1, 5, 12, 13, 14, 15])
noncomputable def lp_te28 {R : Type} (N M : Nat) (s : St) (K : X → St → Option R) : Option R := loopH 0 kp_te28 (fun st K => execM ty tab_te an_te gsT N 0 (atOf [true, true, true, true, true, false, true, false, false, true, false, false, true, false, false, true, false, false, true, true, false, true, false, false] Try.f39) st K) M s K
noncomputable def bk_te28 {R : Type} (N M : Nat) (K : X → St → Option R) : X → St → Option R := fun x st => match x with | .norm => tidyK 0 (kp_te28.map (·.1)) st fun st => lp_te28 N M st K | x => tidyK 0 (kp_te28.map (·.2)) st fun st => K x st
noncomputable def kt_te28 {R : Type} (N : Nat) (K : X → St → Option R) : X → St → Option R := kBlkR 8 (kSeqM tab_te an_te gsT N 0 (atOf [true, true, true, true, true, false, true, false, false, true, false, false, true, false, false, true, false, false, true, true, true] Try.f39) (kBlkR 7 (kSeqM tab_te an_te gsT N 0 (atOf [true, true, true, true, true, false, true, false, false, true, false, false, true, false, false, true, true] Try.f39) (K))))
def st_te31 (t0 : Int) (t1 : Int) (t12n : Nat) (t13 : Int) (t14 : Int) (t15 : Int) (t16 : Int) (t17 : Int) (l0 : List ((Int × Int) × Int)) (l1 : List Int) : St := ⟨(.int .i64 t0 :: .int .i64 t1 :: .any :: .any :: .any :: .mp 0 :: (anys 6 (.sl 1 0 t12n :: .int .i64 t13 :: .int .i64 t14 :: .int .i64 t15 :: .int .i64 t16 :: .int .i64 t17 :: (anys 96 [])))), [.at false (.mp l0), .at true (.int .i64 l1)]⟩
abbrev kp_te31 : Option (List Nat × List Nat) := some ([0, 1, 5, 12, 13, 14, 15, 16, 17], [0, 1, 5, 12, 13, 14, 15, 16])
noncomputable def lp_te31 {R : Type} (N M : Nat) (s : St) (K : X → St → Option R) : Option R := loopH 0 kp_te31 (fun st K => execM ty tab_te an_te gsT N 0 (atOf [true, true, true, true, true, false, true, false, false, true, false, false, true, false, false, true, false, false, true, true, false, true, false, false, true, false, false, true, false, false] Try.f39) st K) M s K
noncomputable def bk_te31 {R : Type} (N M : Nat) (K : X → St → Option R) : X → St → Option R := fun x st => match x with | .norm => tidyK 0 (kp_te31.map (·.1)) st fun st => lp_te31 N M st K | x => tidyK 0 (kp_te31.map (·.2)) st fun st => K x st
noncomputable def kt_te31 {R : Type} (N : Nat) (K : X → St → Option R) : X → St → Option R := kBlkR 10 (kBlkR 9 (kSeqM tab_te an_te gsT N 0 (atOf [true, true, true, true, true, false, true, false, false, true, false, false, true, false, false, true, false, false, true, true, false, true, false, false, true, true] Try.f39) (K)))
def en_te4_0 (t0 : Int) (t1 : Int) (l0 : List ((Int × Int) × Int)) : St := ⟨(.int .i64 t0 :: .int .i64 t1 :: .any :: .any :: .any :: .mp 0 :: (anys 108 [])), [.at false (.mp l0)]⟩
def en_te8_0 (t0 : Int) (t1 : Int) (t6 : Int) (t8 : Int) (t9 : Int) (t10 : Int) (t24 : Int) (t25 : Int) (l0 : List ((Int × Int) × Int)) : St := ⟨(.int .i64 t0 :: .int .i64 t1 :: .any :: .any :: .any :: .mp 0 :: .int .i64 t6 :: .any :: .int .i64 t8 :: .int .i64 t9 :: .int .i64 t10 :: (anys 13 (.int .i64 t24 :: .int .i64 t25 :: (anys 88 [])))), [.at false (.mp l0)]⟩
def en_te20_0 (t12n : Nat) (l0 : List Int) : St := ⟨(anys 12 (.sl 0 0 t12n :: (anys 101 []))), [.at true (.int .i64 l0)]⟩
def en_te23_0 (t0 : Int) (t1 : Int) (t12n : Nat) (t13 : Int) (l0 : List ((Int × Int) × Int)) (l1 : List Int) : St := ⟨(.int .i64 t0 :: .int .i64 t1 :: .any :: .any :: .any :: .mp 0 :: (anys 6 (.sl 1 0 t12n :: .int .i64 t13 :: (anys 100 [])))), [.at false (.mp l0), .at true (.int .i64 l1)]⟩
def en_te28_0 (t0 : Int) (t1 : Int) (t12n : Nat) (t13 : Int) (t14 : Int) (t15 : Int) (l0 : List ((Int × Int) × Int)) (l1 : List Int) : St := ⟨(.int .i64 t0 :: .int .i64 t1 :: .any :: .any :: .any :: .mp 0 :: (anys 6 (.sl 1 0 t12n :: .int .i64 t13 :: .int .i64 t14 :: .int .i64 t15 :: (anys 98 [])))), [.at false (.mp l0), .at true (.int .i64 l1)]⟩
def en_te31_0 (t0 : Int) (t1 : Int) (t12n : Nat) (t13 : Int) (t14 : Int) (t15 : Int) (t16 : Int) (l0 : List ((Int × Int) × Int)) (l1 : List Int) : St := ⟨(.int .i64 t0 :: .int .i64 t1 :: .any :: .any :: .any :: .mp 0 :: (anys 6 (.sl 1 0 t12n :: .int .i64 t13 :: .int .i64 t14 :: .int .i64 t15 :: .int .i64 t16 :: (anys 97 [])))), [.at false (.mp l0), .at true (.int .i64 l1)]⟩
theorem run_te (N : Nat) (l : Int) (n : Int) : runM ty tab_te an_te gsT N Try.f39 [.int .i64 l, .int .i64 n] []
    = (match decide (IntKind.i64.wrap (2 * (IntKind.i64.wrap ((IntKind.i64.wrap (2 * l)) + 1))) < 0) with | true => none | false => lp_te4 N N (st_te4 l n (IntKind.i64.wrap (2 * (IntKind.i64.wrap ((IntKind.i64.wrap (2 * l)) + 1)))) (IntKind.i64.wrap (1 * 2 ^ (min (Int.toNat (IntKind.i64.wrap (2 * (IntKind.i64.wrap ((IntKind.i64.wrap (2 * l)) + 1))))) 64))) 0 ([] : List ((Int × Int) × Int))) (kt_te4 N (kEndM Try.f39 0))) := by
  kernel_rfl
theorem step_te4 {R : Type} (N M : Nat) (K : X → St → Option R) (t0 : Int) (t1 : Int) (t6 : Int) (t24 : Int) (t25 : Int) (l0 : List ((Int × Int) × Int)) : lp_te4 N (M + 1) (st_te4 t0 t1 t6 t24 t25 l0) K
    = (match decide ((t25 : Int) < t24) with | true => lp_te8 N N (st_te8 t0 t1 t6 t25 0 0 0 t24 0 l0) (kt_te8 N (bk_te4 N M K)) | false => K (.exit 0) (en_te4_0 t0 t1 l0)) := by
  kernel_rfl
theorem step_te8 {R : Type} (N M : Nat) (K : X → St → Option R) (t0 : Int) (t1 : Int) (t6 : Int) (t7 : Int) (t8 : Int) (t9 : Int) (t10 : Int) (t24 : Int) (t29 : Int) (l0 : List ((Int × Int) × Int)) : lp_te8 N (M + 1) (st_te8 t0 t1 t6 t7 t8 t9 t10 t24 t29 l0) K
    = (match decide ((t29 : Int) < t6) with | true => (match decide (t29 < 0) with | true => none | false => (match (IntKind.i64.wrap (BitVec.ofInt 64 (Int.fdiv t7 (2 ^ (min (Int.toNat t29) 64))) &&& BitVec.ofInt 64 1).toNat) == 0 with | true => lp_te8 N M (st_te8 t0 t1 t6 t7 t8 t9 t10 t24 (IntKind.i64.wrap (t29 + 1)) l0) K | false => lp_te8 N M (st_te8 t0 t1 t6 t7 (IntKind.i64.wrap (t8 + (IntKind.i64.wrap ((IntKind.i64.wrap (Int.tdiv t29 2)) - t0)))) (IntKind.i64.wrap (t9 + (IntKind.i64.wrap (1 - (IntKind.i64.wrap (2 * (Int.tmod t29 2))))))) (IntKind.i64.wrap (t10 + 1)) t24 (IntKind.i64.wrap (t29 + 1)) l0) K)) | false => K (.exit 2) (en_te8_0 t0 t1 t6 t8 t9 t10 t24 t7 l0)) := by
  kernel_rfl
theorem step_te20 {R : Type} (N M : Nat) (K : X → St → Option R) (t0 : Int) (t1 : Int) (t12n : Nat) (t13 : Int) (l0 : List ((Int × Int) × Int)) (l1 : List Int) : lp_te20 N (M + 1) (st_te20 t0 t1 t12n t13 l0 l1) K
    = (match decide ((t13 : Int) ≥ 0) with | true => lp_te23 N N (st_te23 t0 t1 t12n t13 (IntKind.i64.wrap (t0 * t1)) l0 l1) (kt_te23 N (bk_te20 N M K)) | false => K (.exit 4) (en_te20_0 t12n l1)) := by
  kernel_rfl
theorem step_te23 {R : Type} (N M : Nat) (K : X → St → Option R) (t0 : Int) (t1 : Int) (t12n : Nat) (t13 : Int) (t14 : Int) (l0 : List ((Int × Int) × Int)) (l1 : List Int) : lp_te23 N (M + 1) (st_te23 t0 t1 t12n t13 t14 l0 l1) K
    = (match decide ((t14 : Int) ≥ 0) with | true => (match decide ((lookL l0 (t13, t14) : Int) ≤ 0) with | true => lp_te23 N M (st_te23 t0 t1 t12n t13 (IntKind.i64.wrap (t14 - 1)) l0 l1) K | false => lp_te28 N N (st_te28 t0 t1 t12n t13 t14 (lookL l0 (t13, t14)) (IntKind.i64.wrap (0 - t13)) l0 l1) (kt_te28 N (bk_te23 N M K))) | false => K (.exit 6) (en_te23_0 t0 t1 t12n t13 l0 l1)) := by
  kernel_rfl
theorem step_te28 {R : Type} (N M : Nat) (K : X → St → Option R) (t0 : Int) (t1 : Int) (t12n : Nat) (t13 : Int) (t14 : Int) (t15 : Int) (t16 : Int) (l0 : List ((Int × Int) × Int)) (l1 : List Int) : lp_te28 N (M + 1) (st_te28 t0 t1 t12n t13 t14 t15 t16 l0 l1) K
    = (match decide ((t16 : Int) ≤ t13) with | true => lp_te31 N N (st_te31 t0 t1 t12n t13 t14 t15 t16 (IntKind.i64.wrap (0 - t14)) l0 l1) (kt_te31 N (bk_te28 N M K)) | false => K (.exit 8) (en_te28_0 t0 t1 t12n t13 t14 t15 l0 l1)) := by
  kernel_rfl
theorem step_te31 {R : Type} (N M : Nat) (K : X → St → Option R) (t0 : Int) (t1 : Int) (t12n : Nat) (t13 : Int) (t14 : Int) (t15 : Int) (t16 : Int) (t17 : Int) (l0 : List ((Int × Int) × Int)) (l1 : List Int) : lp_te31 N (M + 1) (st_te31 t0 t1 t12n t13 t14 t15 t16 t17 l0 l1) K
    = (match decide ((t17 : Int) ≤ t14) with | true => lp_te31 N M (st_te31 t0 t1 t12n t13 t14 t15 t16 (IntKind.i64.wrap (t17 + 1)) (putL l0 (t16, t17) (IntKind.i64.wrap (lookL l0 (t16, t17) - t15))) l1) K | false => K (.exit 10) (en_te31_0 t0 t1 t12n t13 t14 t15 t16 l0 l1)) := by
  kernel_rfl
theorem end_te4_0 (N : Nat) (t0 : Int) (t1 : Int) (l0 : List ((Int × Int) × Int)) : kt_te4 N (kEndM Try.f39 0) (.exit 0) (en_te4_0 t0 t1 l0)
    = lp_te20 N N (st_te20 t0 t1 0 t1 l0 []) (kt_te20 N (kEndM Try.f39 0)) := by
  kernel_rfl
theorem end_te8_0 {R : Type} (N M : Nat) (K : X → St → Option R) (t0 : Int) (t1 : Int) (t6 : Int) (t8 : Int) (t9 : Int) (t10 : Int) (t24 : Int) (t25 : Int) (l0 : List ((Int × Int) × Int)) : kt_te8 N (bk_te4 N M K) (.exit 2) (en_te8_0 t0 t1 t6 t8 t9 t10 t24 t25 l0)
    = (match t10 == t1 with | true => lp_te4 N M (st_te4 t0 t1 t6 t24 (IntKind.i64.wrap (t25 + 1)) (putL l0 (t9, t8) (IntKind.i64.wrap (lookL l0 (t9, t8) + 1)))) K | false => lp_te4 N M (st_te4 t0 t1 t6 t24 (IntKind.i64.wrap (t25 + 1)) l0) K) := by
  kernel_rfl
theorem end_te20_0 (N : Nat) (t12n : Nat) (l0 : List Int) : kt_te20 N (kEndM Try.f39 0) (.exit 4) (en_te20_0 t12n l0)
    = some (.sl 0 0 t12n, [.at true (.int .i64 l0)]) := by
  kernel_rfl
theorem end_te23_0 {R : Type} (N M : Nat) (K : X → St → Option R) (t0 : Int) (t1 : Int) (t12n : Nat) (t13 : Int) (l0 : List ((Int × Int) × Int)) (l1 : List Int) : kt_te23 N (bk_te20 N M K) (.exit 6) (en_te23_0 t0 t1 t12n t13 l0 l1)
    = lp_te20 N M (st_te20 t0 t1 t12n (IntKind.i64.wrap (t13 - 1)) l0 l1) K := by
  kernel_rfl
theorem end_te28_0 {R : Type} (N M : Nat) (K : X → St → Option R) (t0 : Int) (t1 : Int) (t12n : Nat) (t13 : Int) (t14 : Int) (t15 : Int) (l0 : List ((Int × Int) × Int)) (l1 : List Int) : kt_te28 N (bk_te23 N M K) (.exit 8) (en_te28_0 t0 t1 t12n t13 t14 t15 l0 l1)
    = (match apok true t12n 1 l1.length 1 (t12n + 3) 8 with | true => lp_te23 N M (st_te23 t0 t1 (t12n + 3) t13 (IntKind.i64.wrap (t14 - 1)) l0 (l1 ++ [t14, t13, t15])) K | false => none) := by
  kernel_rfl
theorem end_te31_0 {R : Type} (N M : Nat) (K : X → St → Option R) (t0 : Int) (t1 : Int) (t12n : Nat) (t13 : Int) (t14 : Int) (t15 : Int) (t16 : Int) (l0 : List ((Int × Int) × Int)) (l1 : List Int) : kt_te31 N (bk_te28 N M K) (.exit 10) (en_te31_0 t0 t1 t12n t13 t14 t15 t16 l0 l1)
    = lp_te28 N M (st_te28 t0 t1 t12n t13 t14 t15 (IntKind.i64.wrap (t16 + 2)) l0 l1) K := by
  kernel_rfl

end Go.Proofs.Ytbbggpcbnahgiaa.Ab
