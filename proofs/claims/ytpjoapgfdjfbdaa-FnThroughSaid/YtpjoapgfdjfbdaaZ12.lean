/- What the proof names: lemmas and words, merged by a program from its parts. No condition. -/
import Derived.Test.YtpjoapgfdjfbdaaZ6
import Derived.Test.YtpjoapgfdjfbdaaZ11
namespace Go.Proofs.Ytpjoapgfdjfbdaa.Ab
set_option linter.unusedVariables false
set_option linter.unusedSimpArgs false
open Go
theorem aQQ {R : Type} (K : X → St → Option R)  {e : Nat} {q : Int} (F : TZ e q) :
    sV 40 40 (sU 0 e (eX 1 e true [0]).1 (fG 1 e true [0]).1 0 (fG 1 e true [0]).2) K = K (.exit 0) (LV 0 e (eX 1 e true [0]).1) := by
  have hL := of_decide_eq_true F.f34
  have g := abZ hL
  have h2 := F.f36
  have h3 := F.f37
  rw [show (40 : Nat) = 39 + 1 from rfl, abM, show decide ((0 : Int) ≤ 0) = true from rfl, show decide (0 ≤ (0 : Int) ∧ (0 : Int) < 1) = true from rfl, show [0][0 + (0 : Int).toNat * 1]? = some 0 from rfl, show decide (0 ≤ (0 : Int) ∧ (0 : Int) < (((fG 1 e true [0]).1 : Nat) : Int)) = true from F.f33, show 0 + (0 : Int).toNat * 1 = 0 from rfl, g]
  dsimp only
  generalize (fG 1 e true [0]).2.getD 0 zz = z at *
  obtain ⟨z1, z2⟩ := z
  dsimp only at h2 h3 ⊢
  rw [F.f35, h2, h3, F.f38, show decide ((0 : Int) > 0) = false from rfl, show IntKind.i64.wrap (0 + 1) = 1 from by decide]
  dsimp only
  rw [show (39 : Nat) = 38 + 1 from rfl, abM, show decide ((1 : Int) ≤ 0) = false from rfl]
theorem aWJ   (h0 : dn ([] : List Int) = 0) (F : TZ (dE ([] : List Int)) (dq ([] : List Int))) : uQ ty AC NQ wM 40 Try.f3 [.nil, .nil] [] = some (.bool true, []) := by
  refine Eq.trans (aJH 40 ) ?_
  cases qG 0 0
  case true => rfl
  have a40 : atOk 0 ([] : List Int) 40 = true := decide_eq_true ⟨rfl, by decide, by decide, by decide⟩
  have a41 : atOk 0 ([] : List Int) 41 = true := decide_eq_true ⟨rfl, by decide, by decide, by decide⟩
  have a42 : atOk 0 ([] : List Int) 42 = true := decide_eq_true ⟨rfl, by decide, by decide, by decide⟩
  skip
  generalize hye : dE ([] : List Int) = ye at *
  generalize hyq : dq ([] : List Int) = yq at *
  rw [h0]
  have n00 : decide ((0 : Int) = 0) = true := rfl
  have n01 : ((0 : Int) == 0) = true := rfl
  first | rw [a40] | skip
  first | rw [n00] | skip
  first | rw [a41] | skip
  first | rw [F.f0] | skip
  first | rw [F.f1] | skip
  first | rw [F.f2] | skip
  first | rw [F.f3] | skip
  first | rw [F.f4] | skip
  first | rw [F.f5] | skip
  first | rw [F.f6] | skip
  first | rw [F.f7] | skip
  first | rw [F.f8] | skip
  first | rw [F.f9] | skip
  first | rw [F.f10] | skip
  first | rw [F.f11] | skip
  first | rw [F.f12] | skip
  first | rw [F.f13] | skip
  first | rw [F.f14] | skip
  first | rw [F.f15] | skip
  first | rw [F.f16] | skip
  first | rw [n01] | skip
  first | rw [F.f17] | skip
  first | rw [F.f18] | skip
  first | rw [F.f19] | skip
  first | rw [F.f19] | skip
  first | rw [lU] | skip
  dsimp only
  first | rw [F.f20] | skip
  refine Eq.trans (aQQ (NR 40 (oM Try.f3 0))  F) ?_
  rw [amA]
  try rw [hyq]
  first | rw [a42] | skip
  first | rw [F.f21] | skip
  first | rw [F.f22] | skip
  first | rw [F.f23] | skip
  first | rw [F.f24] | skip
  first | rw [of_decide_eq_true F.f25] | skip
  dsimp only
  first | rw [F.f26] | skip
  first | rw [F.f27] | skip
  first | rw [F.f28] | skip
  first | rw [of_decide_eq_true F.f29] | skip
  dsimp only
  first | rw [F.f30] | skip
  first | rw [F.f31] | skip
  first | rw [F.f32] | skip
  first | rw [n01] | skip
  try rfl
end Go.Proofs.Ytpjoapgfdjfbdaa.Ab
