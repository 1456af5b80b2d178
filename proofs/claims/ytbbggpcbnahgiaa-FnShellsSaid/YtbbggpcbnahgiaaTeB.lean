/- The terms of a shell: the walk as plain functions. Only lemmas. Printed by gen_terms.py. -/
import Derived.Test.YtbbggpcbnahgiaaTeA
namespace Go.Proofs.Ytbbggpcbnahgiaa.Ab
set_option linter.unusedVariables false
set_option linter.unusedSimpArgs false
open Go
noncomputable def ce_te8_0 (N : Nat) (g : Int → Int → Int → Int → Int → List ((Int × Int) × Int) → Option (V × H)) (q0 : Int → Int → List ((Int × Int) × Int) → Option (V × H)) (t0 : Int) (t1 : Int) (t6 : Int) (t8 : Int) (t9 : Int) (t10 : Int) (t24 : Int) (t25 : Int) (l0 : List ((Int × Int) × Int)) : Option (V × H) := (match t10 == t1 with | true => (g t0 t1 t6 t24 (IntKind.i64.wrap (t25 + 1)) (putL l0 (t9, t8) (IntKind.i64.wrap (lookL l0 (t9, t8) + 1)))) | false => (g t0 t1 t6 t24 (IntKind.i64.wrap (t25 + 1)) l0))
noncomputable def mb_te8 (N : Nat) (k0 : Int → Int → Int → Int → Int → Int → Int → Int → List ((Int × Int) × Int) → Option (V × H)) (rq : Int → Int → Int → Int → Int → Int → Int → Int → Int → List ((Int × Int) × Int) → Option (V × H)) : Int → Int → Int → Int → Int → Int → Int → Int → Int → List ((Int × Int) × Int) → Option (V × H) := fun (t0 : Int) (t1 : Int) (t6 : Int) (t7 : Int) (t8 : Int) (t9 : Int) (t10 : Int) (t24 : Int) (t29 : Int) (l0 : List ((Int × Int) × Int)) => (match decide ((t29 : Int) < t6) with | true => (match decide (t29 < 0) with | true => none | false => (match (IntKind.i64.wrap (BitVec.ofInt 64 (Int.fdiv t7 (2 ^ (min (Int.toNat t29) 64))) &&& BitVec.ofInt 64 1).toNat) == 0 with | true => (rq t0 t1 t6 t7 t8 t9 t10 t24 (IntKind.i64.wrap (t29 + 1)) l0) | false => (rq t0 t1 t6 t7 (IntKind.i64.wrap (t8 + (IntKind.i64.wrap ((IntKind.i64.wrap (Int.tdiv t29 2)) - t0)))) (IntKind.i64.wrap (t9 + (IntKind.i64.wrap (1 - (IntKind.i64.wrap (2 * (Int.tmod t29 2))))))) (IntKind.i64.wrap (t10 + 1)) t24 (IntKind.i64.wrap (t29 + 1)) l0))) | false => (k0 t0 t1 t6 t8 t9 t10 t24 t7 l0))
noncomputable def mr_te8 (N : Nat) (k0 : Int → Int → Int → Int → Int → Int → Int → Int → List ((Int × Int) × Int) → Option (V × H)) (M : Nat) : Int → Int → Int → Int → Int → Int → Int → Int → Int → List ((Int × Int) × Int) → Option (V × H) := Nat.rec (motive := fun _ => Int → Int → Int → Int → Int → Int → Int → Int → Int → List ((Int × Int) × Int) → Option (V × H)) (fun (_ : Int) (_ : Int) (_ : Int) (_ : Int) (_ : Int) (_ : Int) (_ : Int) (_ : Int) (_ : Int) (_ : List ((Int × Int) × Int)) => none) (fun _ rq => mb_te8 N k0 rq) M
theorem mrs_te8 (N : Nat) (k0 : Int → Int → Int → Int → Int → Int → Int → Int → List ((Int × Int) × Int) → Option (V × H)) (M : Nat) (t0 : Int) (t1 : Int) (t6 : Int) (t7 : Int) (t8 : Int) (t9 : Int) (t10 : Int) (t24 : Int) (t29 : Int) (l0 : List ((Int × Int) × Int)) : mr_te8 N k0 (M + 1) t0 t1 t6 t7 t8 t9 t10 t24 t29 l0 = mb_te8 N k0 (mr_te8 N k0 M) t0 t1 t6 t7 t8 t9 t10 t24 t29 l0 := rfl
theorem H_te8 (N : Nat) (Mp : Nat) (K : X → St → Option (V × H)) (g : Int → Int → Int → Int → Int → List ((Int × Int) × Int) → Option (V × H)) (q0 : Int → Int → List ((Int × Int) × Int) → Option (V × H)) (hg : ∀ (t0 : Int) (t1 : Int) (t6 : Int) (t24 : Int) (t25 : Int) (l0 : List ((Int × Int) × Int)), lp_te4 N Mp (st_te4 t0 t1 t6 t24 t25 l0) K = g t0 t1 t6 t24 t25 l0) (hk0 : ∀ (t0 : Int) (t1 : Int) (l0 : List ((Int × Int) × Int)), K (.exit 0) (en_te4_0 t0 t1 l0) = q0 t0 t1 l0) : ∀ (M : Nat) (t0 : Int) (t1 : Int) (t6 : Int) (t7 : Int) (t8 : Int) (t9 : Int) (t10 : Int) (t24 : Int) (t29 : Int) (l0 : List ((Int × Int) × Int)), lp_te8 N M (st_te8 t0 t1 t6 t7 t8 t9 t10 t24 t29 l0) (kt_te8 N (bk_te4 N Mp K)) = mr_te8 N (ce_te8_0 N g q0) M t0 t1 t6 t7 t8 t9 t10 t24 t29 l0 := by
  have he0 : ∀ (t0 : Int) (t1 : Int) (t6 : Int) (t8 : Int) (t9 : Int) (t10 : Int) (t24 : Int) (t25 : Int) (l0 : List ((Int × Int) × Int)), kt_te8 N (bk_te4 N Mp K) (.exit 2) (en_te8_0 t0 t1 t6 t8 t9 t10 t24 t25 l0) = ce_te8_0 N g q0 t0 t1 t6 t8 t9 t10 t24 t25 l0 := by
    intro t0 t1 t6 t8 t9 t10 t24 t25 l0
    rw [end_te8_0]
    unfold ce_te8_0
    cases hz1 : (t10 == t1)
    case true =>
      try dsimp only
      exact hg _ _ _ _ _ _
    case false =>
      try dsimp only
      exact hg _ _ _ _ _ _
  intro M
  induction M with
  | zero => intros; rfl
  | succ M ih =>
    intro t0 t1 t6 t7 t8 t9 t10 t24 t29 l0
    rw [step_te8]
    rw [mrs_te8]
    unfold mb_te8
    cases hq1 : (decide ((t29 : Int) < t6))
    case true =>
      cases hq2 : (decide (t29 < 0))
      case true =>
        rfl
      case false =>
        cases hq3 : ((IntKind.i64.wrap (BitVec.ofInt 64 (Int.fdiv t7 (2 ^ (min (Int.toNat t29) 64))) &&& BitVec.ofInt 64 1).toNat) == 0)
        case true =>
          try dsimp only
          exact ih _ _ _ _ _ _ _ _ _ _
        case false =>
          try dsimp only
          exact ih _ _ _ _ _ _ _ _ _ _
    case false =>
      try dsimp only
      exact he0 _ _ _ _ _ _ _ _ _
noncomputable def ce_te31_0 (N : Nat) (g : Int → Int → Nat → Int → Int → Int → Int → List ((Int × Int) × Int) → List Int → Option (V × H)) (q0 : Int → Int → Nat → Int → Int → Int → List ((Int × Int) × Int) → List Int → Option (V × H)) (t0 : Int) (t1 : Int) (t12n : Nat) (t13 : Int) (t14 : Int) (t15 : Int) (t16 : Int) (l0 : List ((Int × Int) × Int)) (l1 : List Int) : Option (V × H) := (g t0 t1 t12n t13 t14 t15 (IntKind.i64.wrap (t16 + 2)) l0 l1)
noncomputable def mb_te31 (N : Nat) (k0 : Int → Int → Nat → Int → Int → Int → Int → List ((Int × Int) × Int) → List Int → Option (V × H)) (rq : Int → Int → Nat → Int → Int → Int → Int → Int → List ((Int × Int) × Int) → List Int → Option (V × H)) : Int → Int → Nat → Int → Int → Int → Int → Int → List ((Int × Int) × Int) → List Int → Option (V × H) := fun (t0 : Int) (t1 : Int) (t12n : Nat) (t13 : Int) (t14 : Int) (t15 : Int) (t16 : Int) (t17 : Int) (l0 : List ((Int × Int) × Int)) (l1 : List Int) => (match decide ((t17 : Int) ≤ t14) with | true => (rq t0 t1 t12n t13 t14 t15 t16 (IntKind.i64.wrap (t17 + 1)) (putL l0 (t16, t17) (IntKind.i64.wrap (lookL l0 (t16, t17) - t15))) l1) | false => (k0 t0 t1 t12n t13 t14 t15 t16 l0 l1))
noncomputable def mr_te31 (N : Nat) (k0 : Int → Int → Nat → Int → Int → Int → Int → List ((Int × Int) × Int) → List Int → Option (V × H)) (M : Nat) : Int → Int → Nat → Int → Int → Int → Int → Int → List ((Int × Int) × Int) → List Int → Option (V × H) := Nat.rec (motive := fun _ => Int → Int → Nat → Int → Int → Int → Int → Int → List ((Int × Int) × Int) → List Int → Option (V × H)) (fun (_ : Int) (_ : Int) (_ : Nat) (_ : Int) (_ : Int) (_ : Int) (_ : Int) (_ : Int) (_ : List ((Int × Int) × Int)) (_ : List Int) => none) (fun _ rq => mb_te31 N k0 rq) M
theorem mrs_te31 (N : Nat) (k0 : Int → Int → Nat → Int → Int → Int → Int → List ((Int × Int) × Int) → List Int → Option (V × H)) (M : Nat) (t0 : Int) (t1 : Int) (t12n : Nat) (t13 : Int) (t14 : Int) (t15 : Int) (t16 : Int) (t17 : Int) (l0 : List ((Int × Int) × Int)) (l1 : List Int) : mr_te31 N k0 (M + 1) t0 t1 t12n t13 t14 t15 t16 t17 l0 l1 = mb_te31 N k0 (mr_te31 N k0 M) t0 t1 t12n t13 t14 t15 t16 t17 l0 l1 := rfl
theorem H_te31 (N : Nat) (Mp : Nat) (K : X → St → Option (V × H)) (g : Int → Int → Nat → Int → Int → Int → Int → List ((Int × Int) × Int) → List Int → Option (V × H)) (q0 : Int → Int → Nat → Int → Int → Int → List ((Int × Int) × Int) → List Int → Option (V × H)) (hg : ∀ (t0 : Int) (t1 : Int) (t12n : Nat) (t13 : Int) (t14 : Int) (t15 : Int) (t16 : Int) (l0 : List ((Int × Int) × Int)) (l1 : List Int), lp_te28 N Mp (st_te28 t0 t1 t12n t13 t14 t15 t16 l0 l1) K = g t0 t1 t12n t13 t14 t15 t16 l0 l1) (hk0 : ∀ (t0 : Int) (t1 : Int) (t12n : Nat) (t13 : Int) (t14 : Int) (t15 : Int) (l0 : List ((Int × Int) × Int)) (l1 : List Int), K (.exit 8) (en_te28_0 t0 t1 t12n t13 t14 t15 l0 l1) = q0 t0 t1 t12n t13 t14 t15 l0 l1) : ∀ (M : Nat) (t0 : Int) (t1 : Int) (t12n : Nat) (t13 : Int) (t14 : Int) (t15 : Int) (t16 : Int) (t17 : Int) (l0 : List ((Int × Int) × Int)) (l1 : List Int), lp_te31 N M (st_te31 t0 t1 t12n t13 t14 t15 t16 t17 l0 l1) (kt_te31 N (bk_te28 N Mp K)) = mr_te31 N (ce_te31_0 N g q0) M t0 t1 t12n t13 t14 t15 t16 t17 l0 l1 := by
  have he0 : ∀ (t0 : Int) (t1 : Int) (t12n : Nat) (t13 : Int) (t14 : Int) (t15 : Int) (t16 : Int) (l0 : List ((Int × Int) × Int)) (l1 : List Int), kt_te31 N (bk_te28 N Mp K) (.exit 10) (en_te31_0 t0 t1 t12n t13 t14 t15 t16 l0 l1) = ce_te31_0 N g q0 t0 t1 t12n t13 t14 t15 t16 l0 l1 := by
    intro t0 t1 t12n t13 t14 t15 t16 l0 l1
    rw [end_te31_0]
    unfold ce_te31_0
    try dsimp only
    exact hg _ _ _ _ _ _ _ _ _
  intro M
  induction M with
  | zero => intros; rfl
  | succ M ih =>
    intro t0 t1 t12n t13 t14 t15 t16 t17 l0 l1
    rw [step_te31]
    rw [mrs_te31]
    unfold mb_te31
    cases hq1 : (decide ((t17 : Int) ≤ t14))
    case true =>
      try dsimp only
      exact ih _ _ _ _ _ _ _ _ _ _
    case false =>
      try dsimp only
      exact he0 _ _ _ _ _ _ _ _ _
noncomputable def ce_te28_0 (N : Nat) (g : Int → Int → Nat → Int → Int → List ((Int × Int) × Int) → List Int → Option (V × H)) (q0 : Int → Int → Nat → Int → List ((Int × Int) × Int) → List Int → Option (V × H)) (t0 : Int) (t1 : Int) (t12n : Nat) (t13 : Int) (t14 : Int) (t15 : Int) (l0 : List ((Int × Int) × Int)) (l1 : List Int) : Option (V × H) := (match apok true t12n 1 l1.length 1 (t12n + 3) 8 with | true => (g t0 t1 (t12n + 3) t13 (IntKind.i64.wrap (t14 - 1)) l0 (l1 ++ [t14, t13, t15])) | false => none)
noncomputable def mb_te28 (N : Nat) (k0 : Int → Int → Nat → Int → Int → Int → List ((Int × Int) × Int) → List Int → Option (V × H)) (rq : Int → Int → Nat → Int → Int → Int → Int → List ((Int × Int) × Int) → List Int → Option (V × H)) : Int → Int → Nat → Int → Int → Int → Int → List ((Int × Int) × Int) → List Int → Option (V × H) := fun (t0 : Int) (t1 : Int) (t12n : Nat) (t13 : Int) (t14 : Int) (t15 : Int) (t16 : Int) (l0 : List ((Int × Int) × Int)) (l1 : List Int) => (match decide ((t16 : Int) ≤ t13) with | true => (mr_te31 N (ce_te31_0 N (fun t0 t1 t12n t13 t14 t15 t16 l0 l1 => rq t0 t1 t12n t13 t14 t15 t16 l0 l1) k0) N t0 t1 t12n t13 t14 t15 t16 (IntKind.i64.wrap (0 - t14)) l0 l1) | false => (k0 t0 t1 t12n t13 t14 t15 l0 l1))
noncomputable def mr_te28 (N : Nat) (k0 : Int → Int → Nat → Int → Int → Int → List ((Int × Int) × Int) → List Int → Option (V × H)) (M : Nat) : Int → Int → Nat → Int → Int → Int → Int → List ((Int × Int) × Int) → List Int → Option (V × H) := Nat.rec (motive := fun _ => Int → Int → Nat → Int → Int → Int → Int → List ((Int × Int) × Int) → List Int → Option (V × H)) (fun (_ : Int) (_ : Int) (_ : Nat) (_ : Int) (_ : Int) (_ : Int) (_ : Int) (_ : List ((Int × Int) × Int)) (_ : List Int) => none) (fun _ rq => mb_te28 N k0 rq) M
theorem mrs_te28 (N : Nat) (k0 : Int → Int → Nat → Int → Int → Int → List ((Int × Int) × Int) → List Int → Option (V × H)) (M : Nat) (t0 : Int) (t1 : Int) (t12n : Nat) (t13 : Int) (t14 : Int) (t15 : Int) (t16 : Int) (l0 : List ((Int × Int) × Int)) (l1 : List Int) : mr_te28 N k0 (M + 1) t0 t1 t12n t13 t14 t15 t16 l0 l1 = mb_te28 N k0 (mr_te28 N k0 M) t0 t1 t12n t13 t14 t15 t16 l0 l1 := rfl
theorem H_te28 (N : Nat) (Mp : Nat) (K : X → St → Option (V × H)) (g : Int → Int → Nat → Int → Int → List ((Int × Int) × Int) → List Int → Option (V × H)) (q0 : Int → Int → Nat → Int → List ((Int × Int) × Int) → List Int → Option (V × H)) (hg : ∀ (t0 : Int) (t1 : Int) (t12n : Nat) (t13 : Int) (t14 : Int) (l0 : List ((Int × Int) × Int)) (l1 : List Int), lp_te23 N Mp (st_te23 t0 t1 t12n t13 t14 l0 l1) K = g t0 t1 t12n t13 t14 l0 l1) (hk0 : ∀ (t0 : Int) (t1 : Int) (t12n : Nat) (t13 : Int) (l0 : List ((Int × Int) × Int)) (l1 : List Int), K (.exit 6) (en_te23_0 t0 t1 t12n t13 l0 l1) = q0 t0 t1 t12n t13 l0 l1) : ∀ (M : Nat) (t0 : Int) (t1 : Int) (t12n : Nat) (t13 : Int) (t14 : Int) (t15 : Int) (t16 : Int) (l0 : List ((Int × Int) × Int)) (l1 : List Int), lp_te28 N M (st_te28 t0 t1 t12n t13 t14 t15 t16 l0 l1) (kt_te28 N (bk_te23 N Mp K)) = mr_te28 N (ce_te28_0 N g q0) M t0 t1 t12n t13 t14 t15 t16 l0 l1 := by
  have he0 : ∀ (t0 : Int) (t1 : Int) (t12n : Nat) (t13 : Int) (t14 : Int) (t15 : Int) (l0 : List ((Int × Int) × Int)) (l1 : List Int), kt_te28 N (bk_te23 N Mp K) (.exit 8) (en_te28_0 t0 t1 t12n t13 t14 t15 l0 l1) = ce_te28_0 N g q0 t0 t1 t12n t13 t14 t15 l0 l1 := by
    intro t0 t1 t12n t13 t14 t15 l0 l1
    rw [end_te28_0]
    unfold ce_te28_0
    cases hz1 : (apok true t12n 1 l1.length 1 (t12n + 3) 8)
    case true =>
      try dsimp only
      exact hg _ _ _ _ _ _ _
    case false =>
      rfl
  intro M
  induction M with
  | zero => intros; rfl
  | succ M ih =>
    intro t0 t1 t12n t13 t14 t15 t16 l0 l1
    rw [step_te28]
    have hc31 := H_te31 N M (kt_te28 N (bk_te23 N Mp K)) (fun t0 t1 t12n t13 t14 t15 t16 l0 l1 => mr_te28 N (ce_te28_0 N g q0) M t0 t1 t12n t13 t14 t15 t16 l0 l1) (ce_te28_0 N g q0) (fun t0 t1 t12n t13 t14 t15 t16 l0 l1 => ih t0 t1 t12n t13 t14 t15 t16 l0 l1) he0
    rw [mrs_te28]
    unfold mb_te28
    cases hq1 : (decide ((t16 : Int) ≤ t13))
    case true =>
      try dsimp only
      exact hc31 N _ _ _ _ _ _ _ _ _ _
    case false =>
      try dsimp only
      exact he0 _ _ _ _ _ _ _ _
noncomputable def ce_te23_0 (N : Nat) (g : Int → Int → Nat → Int → List ((Int × Int) × Int) → List Int → Option (V × H)) (q0 : Nat → List Int → Option (V × H)) (t0 : Int) (t1 : Int) (t12n : Nat) (t13 : Int) (l0 : List ((Int × Int) × Int)) (l1 : List Int) : Option (V × H) := (g t0 t1 t12n (IntKind.i64.wrap (t13 - 1)) l0 l1)
noncomputable def mb_te23 (N : Nat) (k0 : Int → Int → Nat → Int → List ((Int × Int) × Int) → List Int → Option (V × H)) (rq : Int → Int → Nat → Int → Int → List ((Int × Int) × Int) → List Int → Option (V × H)) : Int → Int → Nat → Int → Int → List ((Int × Int) × Int) → List Int → Option (V × H) := fun (t0 : Int) (t1 : Int) (t12n : Nat) (t13 : Int) (t14 : Int) (l0 : List ((Int × Int) × Int)) (l1 : List Int) => (match decide ((t14 : Int) ≥ 0) with | true => (match decide ((lookL l0 (t13, t14) : Int) ≤ 0) with | true => (rq t0 t1 t12n t13 (IntKind.i64.wrap (t14 - 1)) l0 l1) | false => (mr_te28 N (ce_te28_0 N (fun t0 t1 t12n t13 t14 l0 l1 => rq t0 t1 t12n t13 t14 l0 l1) k0) N t0 t1 t12n t13 t14 (lookL l0 (t13, t14)) (IntKind.i64.wrap (0 - t13)) l0 l1)) | false => (k0 t0 t1 t12n t13 l0 l1))
noncomputable def mr_te23 (N : Nat) (k0 : Int → Int → Nat → Int → List ((Int × Int) × Int) → List Int → Option (V × H)) (M : Nat) : Int → Int → Nat → Int → Int → List ((Int × Int) × Int) → List Int → Option (V × H) := Nat.rec (motive := fun _ => Int → Int → Nat → Int → Int → List ((Int × Int) × Int) → List Int → Option (V × H)) (fun (_ : Int) (_ : Int) (_ : Nat) (_ : Int) (_ : Int) (_ : List ((Int × Int) × Int)) (_ : List Int) => none) (fun _ rq => mb_te23 N k0 rq) M
theorem mrs_te23 (N : Nat) (k0 : Int → Int → Nat → Int → List ((Int × Int) × Int) → List Int → Option (V × H)) (M : Nat) (t0 : Int) (t1 : Int) (t12n : Nat) (t13 : Int) (t14 : Int) (l0 : List ((Int × Int) × Int)) (l1 : List Int) : mr_te23 N k0 (M + 1) t0 t1 t12n t13 t14 l0 l1 = mb_te23 N k0 (mr_te23 N k0 M) t0 t1 t12n t13 t14 l0 l1 := rfl
theorem H_te23 (N : Nat) (Mp : Nat) (K : X → St → Option (V × H)) (g : Int → Int → Nat → Int → List ((Int × Int) × Int) → List Int → Option (V × H)) (q0 : Nat → List Int → Option (V × H)) (hg : ∀ (t0 : Int) (t1 : Int) (t12n : Nat) (t13 : Int) (l0 : List ((Int × Int) × Int)) (l1 : List Int), lp_te20 N Mp (st_te20 t0 t1 t12n t13 l0 l1) K = g t0 t1 t12n t13 l0 l1) (hk0 : ∀ (t12n : Nat) (l0 : List Int), K (.exit 4) (en_te20_0 t12n l0) = q0 t12n l0) : ∀ (M : Nat) (t0 : Int) (t1 : Int) (t12n : Nat) (t13 : Int) (t14 : Int) (l0 : List ((Int × Int) × Int)) (l1 : List Int), lp_te23 N M (st_te23 t0 t1 t12n t13 t14 l0 l1) (kt_te23 N (bk_te20 N Mp K)) = mr_te23 N (ce_te23_0 N g q0) M t0 t1 t12n t13 t14 l0 l1 := by
  have he0 : ∀ (t0 : Int) (t1 : Int) (t12n : Nat) (t13 : Int) (l0 : List ((Int × Int) × Int)) (l1 : List Int), kt_te23 N (bk_te20 N Mp K) (.exit 6) (en_te23_0 t0 t1 t12n t13 l0 l1) = ce_te23_0 N g q0 t0 t1 t12n t13 l0 l1 := by
    intro t0 t1 t12n t13 l0 l1
    rw [end_te23_0]
    unfold ce_te23_0
    try dsimp only
    exact hg _ _ _ _ _ _
  intro M
  induction M with
  | zero => intros; rfl
  | succ M ih =>
    intro t0 t1 t12n t13 t14 l0 l1
    rw [step_te23]
    have hc28 := H_te28 N M (kt_te23 N (bk_te20 N Mp K)) (fun t0 t1 t12n t13 t14 l0 l1 => mr_te23 N (ce_te23_0 N g q0) M t0 t1 t12n t13 t14 l0 l1) (ce_te23_0 N g q0) (fun t0 t1 t12n t13 t14 l0 l1 => ih t0 t1 t12n t13 t14 l0 l1) he0
    rw [mrs_te23]
    unfold mb_te23
    cases hq1 : (decide ((t14 : Int) ≥ 0))
    case true =>
      cases hq2 : (decide ((lookL l0 (t13, t14) : Int) ≤ 0))
      case true =>
        try dsimp only
        exact ih _ _ _ _ _ _ _
      case false =>
        try dsimp only
        exact hc28 N _ _ _ _ _ _ _ _ _
    case false =>
      try dsimp only
      exact he0 _ _ _ _ _ _
noncomputable def ce_te20_0 (N : Nat) (t12n : Nat) (l0 : List Int) : Option (V × H) := some (.sl 0 0 t12n, [.at true (.int .i64 l0)])
noncomputable def mb_te20 (N : Nat) (k0 : Nat → List Int → Option (V × H)) (rq : Int → Int → Nat → Int → List ((Int × Int) × Int) → List Int → Option (V × H)) : Int → Int → Nat → Int → List ((Int × Int) × Int) → List Int → Option (V × H) := fun (t0 : Int) (t1 : Int) (t12n : Nat) (t13 : Int) (l0 : List ((Int × Int) × Int)) (l1 : List Int) => (match decide ((t13 : Int) ≥ 0) with | true => (mr_te23 N (ce_te23_0 N (fun t0 t1 t12n t13 l0 l1 => rq t0 t1 t12n t13 l0 l1) k0) N t0 t1 t12n t13 (IntKind.i64.wrap (t0 * t1)) l0 l1) | false => (k0 t12n l1))
noncomputable def mr_te20 (N : Nat) (k0 : Nat → List Int → Option (V × H)) (M : Nat) : Int → Int → Nat → Int → List ((Int × Int) × Int) → List Int → Option (V × H) := Nat.rec (motive := fun _ => Int → Int → Nat → Int → List ((Int × Int) × Int) → List Int → Option (V × H)) (fun (_ : Int) (_ : Int) (_ : Nat) (_ : Int) (_ : List ((Int × Int) × Int)) (_ : List Int) => none) (fun _ rq => mb_te20 N k0 rq) M
theorem mrs_te20 (N : Nat) (k0 : Nat → List Int → Option (V × H)) (M : Nat) (t0 : Int) (t1 : Int) (t12n : Nat) (t13 : Int) (l0 : List ((Int × Int) × Int)) (l1 : List Int) : mr_te20 N k0 (M + 1) t0 t1 t12n t13 l0 l1 = mb_te20 N k0 (mr_te20 N k0 M) t0 t1 t12n t13 l0 l1 := rfl
theorem H_te20 (N : Nat) : ∀ (M : Nat) (t0 : Int) (t1 : Int) (t12n : Nat) (t13 : Int) (l0 : List ((Int × Int) × Int)) (l1 : List Int), lp_te20 N M (st_te20 t0 t1 t12n t13 l0 l1) (kt_te20 N (kEndM Try.f39 0)) = mr_te20 N (ce_te20_0 N) M t0 t1 t12n t13 l0 l1 := by
  have he0 : ∀ (t12n : Nat) (l0 : List Int), kt_te20 N (kEndM Try.f39 0) (.exit 4) (en_te20_0 t12n l0) = ce_te20_0 N t12n l0 := by
    intro t12n l0
    rw [end_te20_0]
    unfold ce_te20_0
    rfl
  intro M
  induction M with
  | zero => intros; rfl
  | succ M ih =>
    intro t0 t1 t12n t13 l0 l1
    rw [step_te20]
    have hc23 := H_te23 N M (kt_te20 N (kEndM Try.f39 0)) (fun t0 t1 t12n t13 l0 l1 => mr_te20 N (ce_te20_0 N) M t0 t1 t12n t13 l0 l1) (ce_te20_0 N) (fun t0 t1 t12n t13 l0 l1 => ih t0 t1 t12n t13 l0 l1) he0
    rw [mrs_te20]
    unfold mb_te20
    cases hq1 : (decide ((t13 : Int) ≥ 0))
    case true =>
      try dsimp only
      exact hc23 N _ _ _ _ _ _ _
    case false =>
      try dsimp only
      exact he0 _ _
noncomputable def ce_te4_0 (N : Nat) (t0 : Int) (t1 : Int) (l0 : List ((Int × Int) × Int)) : Option (V × H) := (mr_te20 N (ce_te20_0 N) N t0 t1 0 t1 l0 [])
noncomputable def mb_te4 (N : Nat) (k0 : Int → Int → List ((Int × Int) × Int) → Option (V × H)) (rq : Int → Int → Int → Int → Int → List ((Int × Int) × Int) → Option (V × H)) : Int → Int → Int → Int → Int → List ((Int × Int) × Int) → Option (V × H) := fun (t0 : Int) (t1 : Int) (t6 : Int) (t24 : Int) (t25 : Int) (l0 : List ((Int × Int) × Int)) => (match decide ((t25 : Int) < t24) with | true => (mr_te8 N (ce_te8_0 N (fun t0 t1 t6 t24 t25 l0 => rq t0 t1 t6 t24 t25 l0) k0) N t0 t1 t6 t25 0 0 0 t24 0 l0) | false => (k0 t0 t1 l0))
noncomputable def mr_te4 (N : Nat) (k0 : Int → Int → List ((Int × Int) × Int) → Option (V × H)) (M : Nat) : Int → Int → Int → Int → Int → List ((Int × Int) × Int) → Option (V × H) := Nat.rec (motive := fun _ => Int → Int → Int → Int → Int → List ((Int × Int) × Int) → Option (V × H)) (fun (_ : Int) (_ : Int) (_ : Int) (_ : Int) (_ : Int) (_ : List ((Int × Int) × Int)) => none) (fun _ rq => mb_te4 N k0 rq) M
theorem mrs_te4 (N : Nat) (k0 : Int → Int → List ((Int × Int) × Int) → Option (V × H)) (M : Nat) (t0 : Int) (t1 : Int) (t6 : Int) (t24 : Int) (t25 : Int) (l0 : List ((Int × Int) × Int)) : mr_te4 N k0 (M + 1) t0 t1 t6 t24 t25 l0 = mb_te4 N k0 (mr_te4 N k0 M) t0 t1 t6 t24 t25 l0 := rfl
theorem H_te4 (N : Nat) : ∀ (M : Nat) (t0 : Int) (t1 : Int) (t6 : Int) (t24 : Int) (t25 : Int) (l0 : List ((Int × Int) × Int)), lp_te4 N M (st_te4 t0 t1 t6 t24 t25 l0) (kt_te4 N (kEndM Try.f39 0)) = mr_te4 N (ce_te4_0 N) M t0 t1 t6 t24 t25 l0 := by
  have he0 : ∀ (t0 : Int) (t1 : Int) (l0 : List ((Int × Int) × Int)), kt_te4 N (kEndM Try.f39 0) (.exit 0) (en_te4_0 t0 t1 l0) = ce_te4_0 N t0 t1 l0 := by
    intro t0 t1 l0
    rw [end_te4_0]
    unfold ce_te4_0
    try dsimp only
    exact H_te20 N N _ _ _ _ _ _
  intro M
  induction M with
  | zero => intros; rfl
  | succ M ih =>
    intro t0 t1 t6 t24 t25 l0
    rw [step_te4]
    have hc8 := H_te8 N M (kt_te4 N (kEndM Try.f39 0)) (fun t0 t1 t6 t24 t25 l0 => mr_te4 N (ce_te4_0 N) M t0 t1 t6 t24 t25 l0) (ce_te4_0 N) (fun t0 t1 t6 t24 t25 l0 => ih t0 t1 t6 t24 t25 l0) he0
    rw [mrs_te4]
    unfold mb_te4
    cases hq1 : (decide ((t25 : Int) < t24))
    case true =>
      try dsimp only
      exact hc8 N _ _ _ _ _ _ _ _ _ _
    case false =>
      try dsimp only
      exact he0 _ _ _
noncomputable def md_te (N : Nat) (l : Int) (n : Int) : Option (V × H) := (match decide (IntKind.i64.wrap (2 * (IntKind.i64.wrap ((IntKind.i64.wrap (2 * l)) + 1))) < 0) with | true => none | false => (mr_te4 N (ce_te4_0 N) N l n (IntKind.i64.wrap (2 * (IntKind.i64.wrap ((IntKind.i64.wrap (2 * l)) + 1)))) (IntKind.i64.wrap (1 * 2 ^ (min (Int.toNat (IntKind.i64.wrap (2 * (IntKind.i64.wrap ((IntKind.i64.wrap (2 * l)) + 1))))) 64))) 0 ([] : List ((Int × Int) × Int))))
theorem mdl_te (N : Nat) (l : Int) (n : Int) : runM ty tab_te an_te gsT N Try.f39 [.int .i64 l, .int .i64 n] [] = md_te N l n := by
  rw [run_te]
  unfold md_te
  first | (simp only [H_te4 N N]; done) | (simp only [H_te4 N N]; kernel_rfl) | rfl

end Go.Proofs.Ytbbggpcbnahgiaa.Ab
