/- FnRotors. Only lemmas. Printed by gen_rotors.py. -/
import Derived.Test.YtbbggpcbnahgiaaRtF
namespace Go.Proofs.Ytbbggpcbnahgiaa.Ab
set_option linter.unusedVariables false
set_option linter.unusedSimpArgs false
open Go
theorem H_rotA (n : Nat) (m : Nat) (l0 : List Int) (l1 : List Int) (hl : l1.length = m) (hb : bytesB l1 = true) : md_rotA 40 n m l0 l1 = some (.bool true, [.at false (.int .u8 l0), .at false (.int .u8 l1)]) := by
  unfold md_rotA
  cases hg : longB n m with
  | true => rfl
  | false =>
    unfold longB at hg
    simp only [Bool.or_eq_false_iff, decide_eq_false_iff_not] at hg
    have hb' : bytesB l1 = true := hb
    have hok : ∀ i : Int, 0 ≤ i → i < 1000 → atOk m l1 i = true := fun i h1 h2 => decide_eq_true ⟨hl, by omega, h1, h2⟩
    have hat : ∀ i k : Int, 0 ≤ i → i < 1000 → 1 ≤ k → 0 ≤ atF l1 i k ∧ atF l1 i k < k := fun i k h1 h2 h3 => atF_range hb' h1 h2 h3
    rw [hok 0 (by omega) (by omega), hok 1 (by omega) (by omega), hok 2 (by omega) (by omega), hok 3 (by omega) (by omega)]
    simp only [tr_rotA16]
    obtain ⟨w1, e0⟩ : ∃ w : Int, w = atF l1 0 16 := ⟨_, rfl⟩
    obtain ⟨w2, e1⟩ : ∃ w : Int, w = atF l1 1 16 := ⟨_, rfl⟩
    obtain ⟨w3, e2⟩ : ∃ w : Int, w = atF l1 2 12 := ⟨_, rfl⟩
    obtain ⟨w4, e3⟩ : ∃ w : Int, w = atF l1 3 8 := ⟨_, rfl⟩
    have g0 : 0 ≤ w1 ∧ w1 < 16 := by rw [e0]; exact hat _ _ (by omega) (by omega) (by omega)
    have g1 : 0 ≤ w2 ∧ w2 < 16 := by rw [e1]; exact hat _ _ (by omega) (by omega) (by omega)
    have g2 : 0 ≤ w3 ∧ w3 < 12 := by rw [e2]; exact hat _ _ (by omega) (by omega) (by omega)
    have g3 : 0 ≤ w4 ∧ w4 < 8 := by rw [e3]; exact hat _ _ (by omega) (by omega) (by omega)
    obtain ⟨A0, rfl⟩ : ∃ a : Nat, w1 = (a : Int) := ⟨Int.toNat w1, by omega⟩
    obtain ⟨A1, rfl⟩ : ∃ a : Nat, w2 = (a : Int) := ⟨Int.toNat w2, by omega⟩
    obtain ⟨A2, rfl⟩ : ∃ a : Nat, w3 = (a : Int) := ⟨Int.toNat w3, by omega⟩
    obtain ⟨A3, rfl⟩ : ∃ a : Nat, w4 = (a : Int) := ⟨Int.toNat w4, by omega⟩
    refine Eq.trans (b := rA (A0 : Int) (A1 : Int) (A2 : Int) (A3 : Int) [.at false (.int .u8 l0), .at false (.int .u8 l1)] (fun b o c tn s l => ce_rotA16_1 40 m b o c tn s l0 l1 l)) ?_ (Eq.trans (rotA (by omega) (by omega) (by omega) (by omega) [.at false (.int .u8 l0), .at false (.int .u8 l1)] (fun b o c tn s l => ce_rotA16_1 40 m b o c tn s l0 l1 l)) ?_)
    · rw [e3, e2, e1, e0]
      kernel_rfl
    · show ce_rotA16_1 40 m (bF (A0 : Int)) (bF (A1 : Int)) ((A2 + 1 : Nat) : Int) (A2 + 2) (sumW (bF (A0 : Int)) (A2 + 1)) l0 l1 (li_tl (bF (A0 : Int)) (bF (A0 : Int)) ((A2 + 1 : Nat) : Int)) = _
      unfold ce_rotA16_1
      simp only [tr_rotA23]
      refine Eq.trans (lp23 _ _ _ _ _ _ _ (A2 + 2) (by omega) (rotT (bF_mem (A := A0) (by omega)) (show A2 < 12 by omega))) ?_
      show ce_rotA23_1 40 m (bF (A0 : Int)) (bF (A1 : Int)) ((A2 + 1 : Nat) : Int) (sumW (bF (A0 : Int)) (A2 + 1)) l0 l1 = _
      unfold ce_rotA23_1
      rw [hok 4 (by omega) (by omega), hok 5 (by omega) (by omega)]
      simp only [tr_rotA38, ce_rotA38_1, tr_rotA45]
      obtain ⟨y0, q0⟩ : ∃ w : Int, w = atF l1 4 6 := ⟨_, rfl⟩
      obtain ⟨y1, q1⟩ : ∃ w : Int, w = atF l1 5 200 := ⟨_, rfl⟩
      have r0 : 0 ≤ y0 ∧ y0 < 6 := by rw [q0]; exact hat _ _ (by omega) (by omega) (by omega)
      have r1 : 0 ≤ y1 ∧ y1 < 200 := by rw [q1]; exact hat _ _ (by omega) (by omega) (by omega)
      obtain ⟨B0, rfl⟩ : ∃ a : Nat, y0 = (a : Int) := ⟨Int.toNat y0, by omega⟩
      obtain ⟨B1, rfl⟩ : ∃ a : Nat, y1 = (a : Int) := ⟨Int.toNat y1, by omega⟩
      refine Eq.trans ?_ (rotC (Y := B0) (Z := B1) (bF_mem (A := A0) (by omega)) (bF_mem (A := A1) (by omega)) (show A2 < 12 by omega) (by omega) (by omega) (gapW (bF_mem (A := A0) (by omega)) (show A2 < 12 by omega)) [.at false (.int .u8 l0), .at false (.int .u8 l1)])
      rw [q1, q0]
      kernel_rfl
theorem H_rotB (n : Nat) (l0 : List Int) : md_rotB 40 n l0 = some (.bool true, [.at false (.int .u8 l0)]) := by
  unfold md_rotB
  cases hg : longB n 0 with
  | true => rfl
  | false =>
    unfold longB at hg
    simp only [Bool.or_eq_false_iff, decide_eq_false_iff_not] at hg
    have hb' : bytesB [] = true := rfl
    have hok : ∀ i : Int, 0 ≤ i → i < 1000 → atOk 0 [] i = true := fun i h1 h2 => decide_eq_true ⟨rfl, by omega, h1, h2⟩
    have hat : ∀ i k : Int, 0 ≤ i → i < 1000 → 1 ≤ k → 0 ≤ atF [] i k ∧ atF [] i k < k := fun i k h1 h2 h3 => atF_range hb' h1 h2 h3
    rw [hok 0 (by omega) (by omega), hok 1 (by omega) (by omega), hok 2 (by omega) (by omega), hok 3 (by omega) (by omega)]
    simp only [tr_rotB16]
    obtain ⟨w1, e0⟩ : ∃ w : Int, w = atF [] 0 16 := ⟨_, rfl⟩
    obtain ⟨w2, e1⟩ : ∃ w : Int, w = atF [] 1 16 := ⟨_, rfl⟩
    obtain ⟨w3, e2⟩ : ∃ w : Int, w = atF [] 2 12 := ⟨_, rfl⟩
    obtain ⟨w4, e3⟩ : ∃ w : Int, w = atF [] 3 8 := ⟨_, rfl⟩
    have g0 : 0 ≤ w1 ∧ w1 < 16 := by rw [e0]; exact hat _ _ (by omega) (by omega) (by omega)
    have g1 : 0 ≤ w2 ∧ w2 < 16 := by rw [e1]; exact hat _ _ (by omega) (by omega) (by omega)
    have g2 : 0 ≤ w3 ∧ w3 < 12 := by rw [e2]; exact hat _ _ (by omega) (by omega) (by omega)
    have g3 : 0 ≤ w4 ∧ w4 < 8 := by rw [e3]; exact hat _ _ (by omega) (by omega) (by omega)
    obtain ⟨A0, rfl⟩ : ∃ a : Nat, w1 = (a : Int) := ⟨Int.toNat w1, by omega⟩
    obtain ⟨A1, rfl⟩ : ∃ a : Nat, w2 = (a : Int) := ⟨Int.toNat w2, by omega⟩
    obtain ⟨A2, rfl⟩ : ∃ a : Nat, w3 = (a : Int) := ⟨Int.toNat w3, by omega⟩
    obtain ⟨A3, rfl⟩ : ∃ a : Nat, w4 = (a : Int) := ⟨Int.toNat w4, by omega⟩
    refine Eq.trans (b := rA (A0 : Int) (A1 : Int) (A2 : Int) (A3 : Int) [.at false (.int .u8 l0)] (fun b o c tn s l => ce_rotB16_1 40 b o c tn s l0 l)) ?_ (Eq.trans (rotA (by omega) (by omega) (by omega) (by omega) [.at false (.int .u8 l0)] (fun b o c tn s l => ce_rotB16_1 40 b o c tn s l0 l)) ?_)
    · rw [e3, e2, e1, e0]
      kernel_rfl
    · show ce_rotB16_1 40 (bF (A0 : Int)) (bF (A1 : Int)) ((A2 + 1 : Nat) : Int) (A2 + 2) (sumW (bF (A0 : Int)) (A2 + 1)) l0 (li_tl (bF (A0 : Int)) (bF (A0 : Int)) ((A2 + 1 : Nat) : Int)) = _
      unfold ce_rotB16_1
      simp only [tr_rotB23]
      refine Eq.trans (lp23 _ _ _ _ _ _ _ (A2 + 2) (by omega) (rotT (bF_mem (A := A0) (by omega)) (show A2 < 12 by omega))) ?_
      show ce_rotB23_1 40 (bF (A0 : Int)) (bF (A1 : Int)) ((A2 + 1 : Nat) : Int) (sumW (bF (A0 : Int)) (A2 + 1)) l0 = _
      unfold ce_rotB23_1
      rw [hok 4 (by omega) (by omega), hok 5 (by omega) (by omega)]
      simp only [tr_rotB38, ce_rotB38_1, tr_rotB45]
      obtain ⟨y0, q0⟩ : ∃ w : Int, w = atF [] 4 6 := ⟨_, rfl⟩
      obtain ⟨y1, q1⟩ : ∃ w : Int, w = atF [] 5 200 := ⟨_, rfl⟩
      have r0 : 0 ≤ y0 ∧ y0 < 6 := by rw [q0]; exact hat _ _ (by omega) (by omega) (by omega)
      have r1 : 0 ≤ y1 ∧ y1 < 200 := by rw [q1]; exact hat _ _ (by omega) (by omega) (by omega)
      obtain ⟨B0, rfl⟩ : ∃ a : Nat, y0 = (a : Int) := ⟨Int.toNat y0, by omega⟩
      obtain ⟨B1, rfl⟩ : ∃ a : Nat, y1 = (a : Int) := ⟨Int.toNat y1, by omega⟩
      refine Eq.trans ?_ (rotC (Y := B0) (Z := B1) (bF_mem (A := A0) (by omega)) (bF_mem (A := A1) (by omega)) (show A2 < 12 by omega) (by omega) (by omega) (gapW (bF_mem (A := A0) (by omega)) (show A2 < 12 by omega)) [.at false (.int .u8 l0)])
      rw [q1, q0]
      kernel_rfl
theorem H_rotC (m : Nat) (l1 : List Int) (hl : l1.length = m) (hb : bytesB l1 = true) : md_rotC 40 m l1 = some (.bool true, [.at false (.int .u8 l1)]) := by
  unfold md_rotC
  cases hg : longB 0 m with
  | true => rfl
  | false =>
    unfold longB at hg
    simp only [Bool.or_eq_false_iff, decide_eq_false_iff_not] at hg
    have hb' : bytesB l1 = true := hb
    have hok : ∀ i : Int, 0 ≤ i → i < 1000 → atOk m l1 i = true := fun i h1 h2 => decide_eq_true ⟨hl, by omega, h1, h2⟩
    have hat : ∀ i k : Int, 0 ≤ i → i < 1000 → 1 ≤ k → 0 ≤ atF l1 i k ∧ atF l1 i k < k := fun i k h1 h2 h3 => atF_range hb' h1 h2 h3
    rw [hok 0 (by omega) (by omega), hok 1 (by omega) (by omega), hok 2 (by omega) (by omega), hok 3 (by omega) (by omega)]
    simp only [tr_rotC16]
    obtain ⟨w1, e0⟩ : ∃ w : Int, w = atF l1 0 16 := ⟨_, rfl⟩
    obtain ⟨w2, e1⟩ : ∃ w : Int, w = atF l1 1 16 := ⟨_, rfl⟩
    obtain ⟨w3, e2⟩ : ∃ w : Int, w = atF l1 2 12 := ⟨_, rfl⟩
    obtain ⟨w4, e3⟩ : ∃ w : Int, w = atF l1 3 8 := ⟨_, rfl⟩
    have g0 : 0 ≤ w1 ∧ w1 < 16 := by rw [e0]; exact hat _ _ (by omega) (by omega) (by omega)
    have g1 : 0 ≤ w2 ∧ w2 < 16 := by rw [e1]; exact hat _ _ (by omega) (by omega) (by omega)
    have g2 : 0 ≤ w3 ∧ w3 < 12 := by rw [e2]; exact hat _ _ (by omega) (by omega) (by omega)
    have g3 : 0 ≤ w4 ∧ w4 < 8 := by rw [e3]; exact hat _ _ (by omega) (by omega) (by omega)
    obtain ⟨A0, rfl⟩ : ∃ a : Nat, w1 = (a : Int) := ⟨Int.toNat w1, by omega⟩
    obtain ⟨A1, rfl⟩ : ∃ a : Nat, w2 = (a : Int) := ⟨Int.toNat w2, by omega⟩
    obtain ⟨A2, rfl⟩ : ∃ a : Nat, w3 = (a : Int) := ⟨Int.toNat w3, by omega⟩
    obtain ⟨A3, rfl⟩ : ∃ a : Nat, w4 = (a : Int) := ⟨Int.toNat w4, by omega⟩
    refine Eq.trans (b := rA (A0 : Int) (A1 : Int) (A2 : Int) (A3 : Int) [.at false (.int .u8 l1)] (fun b o c tn s l => ce_rotC16_1 40 m b o c tn s l1 l)) ?_ (Eq.trans (rotA (by omega) (by omega) (by omega) (by omega) [.at false (.int .u8 l1)] (fun b o c tn s l => ce_rotC16_1 40 m b o c tn s l1 l)) ?_)
    · rw [e3, e2, e1, e0]
      kernel_rfl
    · show ce_rotC16_1 40 m (bF (A0 : Int)) (bF (A1 : Int)) ((A2 + 1 : Nat) : Int) (A2 + 2) (sumW (bF (A0 : Int)) (A2 + 1)) l1 (li_tl (bF (A0 : Int)) (bF (A0 : Int)) ((A2 + 1 : Nat) : Int)) = _
      unfold ce_rotC16_1
      simp only [tr_rotC23]
      refine Eq.trans (lp23 _ _ _ _ _ _ _ (A2 + 2) (by omega) (rotT (bF_mem (A := A0) (by omega)) (show A2 < 12 by omega))) ?_
      show ce_rotC23_1 40 m (bF (A0 : Int)) (bF (A1 : Int)) ((A2 + 1 : Nat) : Int) (sumW (bF (A0 : Int)) (A2 + 1)) l1 = _
      unfold ce_rotC23_1
      rw [hok 4 (by omega) (by omega), hok 5 (by omega) (by omega)]
      simp only [tr_rotC38, ce_rotC38_1, tr_rotC45]
      obtain ⟨y0, q0⟩ : ∃ w : Int, w = atF l1 4 6 := ⟨_, rfl⟩
      obtain ⟨y1, q1⟩ : ∃ w : Int, w = atF l1 5 200 := ⟨_, rfl⟩
      have r0 : 0 ≤ y0 ∧ y0 < 6 := by rw [q0]; exact hat _ _ (by omega) (by omega) (by omega)
      have r1 : 0 ≤ y1 ∧ y1 < 200 := by rw [q1]; exact hat _ _ (by omega) (by omega) (by omega)
      obtain ⟨B0, rfl⟩ : ∃ a : Nat, y0 = (a : Int) := ⟨Int.toNat y0, by omega⟩
      obtain ⟨B1, rfl⟩ : ∃ a : Nat, y1 = (a : Int) := ⟨Int.toNat y1, by omega⟩
      refine Eq.trans ?_ (rotC (Y := B0) (Z := B1) (bF_mem (A := A0) (by omega)) (bF_mem (A := A1) (by omega)) (show A2 < 12 by omega) (by omega) (by omega) (gapW (bF_mem (A := A0) (by omega)) (show A2 < 12 by omega)) [.at false (.int .u8 l1)])
      rw [q1, q0]
      kernel_rfl
theorem H_rotD  : md_rotD 40  = some (.bool true, []) := by
  unfold md_rotD
  cases hg : longB 0 0 with
  | true => rfl
  | false =>
    unfold longB at hg
    simp only [Bool.or_eq_false_iff, decide_eq_false_iff_not] at hg
    have hb' : bytesB [] = true := rfl
    have hok : ∀ i : Int, 0 ≤ i → i < 1000 → atOk 0 [] i = true := fun i h1 h2 => decide_eq_true ⟨rfl, by omega, h1, h2⟩
    have hat : ∀ i k : Int, 0 ≤ i → i < 1000 → 1 ≤ k → 0 ≤ atF [] i k ∧ atF [] i k < k := fun i k h1 h2 h3 => atF_range hb' h1 h2 h3
    rw [hok 0 (by omega) (by omega), hok 1 (by omega) (by omega), hok 2 (by omega) (by omega), hok 3 (by omega) (by omega)]
    obtain ⟨w1, e0⟩ : ∃ w : Int, w = atF [] 0 16 := ⟨_, rfl⟩
    obtain ⟨w2, e1⟩ : ∃ w : Int, w = atF [] 1 16 := ⟨_, rfl⟩
    obtain ⟨w3, e2⟩ : ∃ w : Int, w = atF [] 2 12 := ⟨_, rfl⟩
    obtain ⟨w4, e3⟩ : ∃ w : Int, w = atF [] 3 8 := ⟨_, rfl⟩
    have g0 : 0 ≤ w1 ∧ w1 < 16 := by rw [e0]; exact hat _ _ (by omega) (by omega) (by omega)
    have g1 : 0 ≤ w2 ∧ w2 < 16 := by rw [e1]; exact hat _ _ (by omega) (by omega) (by omega)
    have g2 : 0 ≤ w3 ∧ w3 < 12 := by rw [e2]; exact hat _ _ (by omega) (by omega) (by omega)
    have g3 : 0 ≤ w4 ∧ w4 < 8 := by rw [e3]; exact hat _ _ (by omega) (by omega) (by omega)
    obtain ⟨A0, rfl⟩ : ∃ a : Nat, w1 = (a : Int) := ⟨Int.toNat w1, by omega⟩
    obtain ⟨A1, rfl⟩ : ∃ a : Nat, w2 = (a : Int) := ⟨Int.toNat w2, by omega⟩
    obtain ⟨A2, rfl⟩ : ∃ a : Nat, w3 = (a : Int) := ⟨Int.toNat w3, by omega⟩
    obtain ⟨A3, rfl⟩ : ∃ a : Nat, w4 = (a : Int) := ⟨Int.toNat w4, by omega⟩
    refine Eq.trans (b := rA (A0 : Int) (A1 : Int) (A2 : Int) (A3 : Int) [] (fun b o c tn s l => ce_rotD16_1 40 b o c tn s l)) ?_ (Eq.trans (rotA (by omega) (by omega) (by omega) (by omega) [] (fun b o c tn s l => ce_rotD16_1 40 b o c tn s l)) ?_)
    · rw [e3, e2, e1, e0]
      kernel_rfl
    · show ce_rotD16_1 40 (bF (A0 : Int)) (bF (A1 : Int)) ((A2 + 1 : Nat) : Int) (A2 + 2) (sumW (bF (A0 : Int)) (A2 + 1)) (li_tl (bF (A0 : Int)) (bF (A0 : Int)) ((A2 + 1 : Nat) : Int)) = _
      unfold ce_rotD16_1
      refine Eq.trans (lp23 _ _ _ _ _ _ _ (A2 + 2) (by omega) (rotT (bF_mem (A := A0) (by omega)) (show A2 < 12 by omega))) ?_
      show ce_rotD23_1 40 (bF (A0 : Int)) (bF (A1 : Int)) ((A2 + 1 : Nat) : Int) (sumW (bF (A0 : Int)) (A2 + 1)) = _
      unfold ce_rotD23_1
      rw [hok 4 (by omega) (by omega), hok 5 (by omega) (by omega)]
      obtain ⟨y0, q0⟩ : ∃ w : Int, w = atF [] 4 6 := ⟨_, rfl⟩
      obtain ⟨y1, q1⟩ : ∃ w : Int, w = atF [] 5 200 := ⟨_, rfl⟩
      have r0 : 0 ≤ y0 ∧ y0 < 6 := by rw [q0]; exact hat _ _ (by omega) (by omega) (by omega)
      have r1 : 0 ≤ y1 ∧ y1 < 200 := by rw [q1]; exact hat _ _ (by omega) (by omega) (by omega)
      obtain ⟨B0, rfl⟩ : ∃ a : Nat, y0 = (a : Int) := ⟨Int.toNat y0, by omega⟩
      obtain ⟨B1, rfl⟩ : ∃ a : Nat, y1 = (a : Int) := ⟨Int.toNat y1, by omega⟩
      refine Eq.trans ?_ (rotC (Y := B0) (Z := B1) (bF_mem (A := A0) (by omega)) (bF_mem (A := A1) (by omega)) (show A2 < 12 by omega) (by omega) (by omega) (gapW (bF_mem (A := A0) (by omega)) (show A2 < 12 by omega)) [])
      rw [q1, q0]
      kernel_rfl
noncomputable section
def gBytes : G := fun vs h => match vs, h with
  | [.sl 0 0 n, .sl 1 0 m], [.at false (.int .u8 l0), .at false (.int .u8 l1)] => if n = l0.length ∧ m = l1.length ∧ bytesB l0 = true ∧ bytesB l1 = true then some (.bool true, [.at false (.int .u8 l0), .at false (.int .u8 l1)]) else none
  | [.sl 0 0 n, .nil], [.at false (.int .u8 l0)] => if n = l0.length ∧ bytesB l0 = true then some (.bool true, [.at false (.int .u8 l0)]) else none
  | [.nil, .sl 0 0 m], [.at false (.int .u8 l1)] => if m = l1.length ∧ bytesB l1 = true then some (.bool true, [.at false (.int .u8 l1)]) else none
  | [.nil, .nil], [] => some (.bool true, [])
  | _, _ => none
theorem bytes_wf {l : List Int} (h : ∀ z ∈ l, (Lit.int .u8 z).wf = true) : bytesB l = true := by
  unfold bytesB
  rw [List.all_eq_true]
  intro z hz
  have hw := h z hz
  simp only [Lit.wf, Bool.and_eq_true, decide_eq_true_eq] at hw
  have h1 : (0 : Int) ≤ z := hw.1
  have h2 : z ≤ 255 := hw.2
  exact decide_eq_true (by omega)
theorem ok_lawrot : FnOk Try.prog 3 gBytes := by
  intro vs hp v h' e
  rw [T.run_of] at e
  unfold gBytes at e
  split at e
  · rename_i n m l0 l1
    split at e
    · rename_i hc
      cases e
      refine FnT.runs tabok_rotA Try.func3 rfl rfl an_rotA 40 _ _ _ _ ?_
      rw [T.run_of]
      exact Eq.trans (mdl_rotA 40 n m l0 l1) (H_rotA n m l0 l1 hc.2.1.symm hc.2.2.2)
    · cases e
  · rename_i n l0
    split at e
    · rename_i hc
      cases e
      refine FnT.runs tabok_rotB Try.func3 rfl rfl an_rotB 40 _ _ _ _ ?_
      rw [T.run_of]
      exact Eq.trans (mdl_rotB 40 n l0) (H_rotB n l0)
    · cases e
  · rename_i m l1
    split at e
    · rename_i hc
      cases e
      refine FnT.runs tabok_rotC Try.func3 rfl rfl an_rotC 40 _ _ _ _ ?_
      rw [T.run_of]
      exact Eq.trans (mdl_rotC 40 m l1) (H_rotC m l1 hc.1.symm hc.2)
    · cases e
  · cases e
    refine FnT.runs tabok_rotD Try.func3 rfl rfl an_rotD 40 _ _ _ _ ?_
    rw [T.run_of]
    exact Eq.trans (mdl_rotD 40) H_rotD
  · cases e
end
end Go.Proofs.Ytbbggpcbnahgiaa.Ab
