/- FnClosed. Only lemmas. Printed by gen_closed.py. -/
import Derived.Test.YtlopdogjdfeikaaClF
namespace Go.Proofs.Ytlopdogjdfeikaa.Ab
set_option linter.unusedVariables false
set_option linter.unusedSimpArgs false
open Go
theorem H_clsA (n : Nat) (m : Nat) (l0 : List Int) (l1 : List Int) (hl : l1.length = m) (hb : bytesB l1 = true) : md_clsA 40 n m l0 l1 = some (.bool true, [.at false (.int .u8 l0), .at false (.int .u8 l1)]) := by
  unfold md_clsA
  cases hg : longB n m with
  | true => rfl
  | false =>
    unfold longB at hg
    simp only [Bool.or_eq_false_iff, decide_eq_false_iff_not] at hg
    have hb' : bytesB l1 = true := hb
    have hok : ∀ i : Int, 0 ≤ i → i < 1000 → atOk m l1 i = true := fun i h1 h2 => decide_eq_true ⟨hl, by omega, h1, h2⟩
    have hat : ∀ i k : Int, 0 ≤ i → i < 1000 → 1 ≤ k → 0 ≤ atF l1 i k ∧ atF l1 i k < k := fun i k h1 h2 h3 => atF_range hb' h1 h2 h3
    rw [hok 40 (by omega) (by omega), hok 41 (by omega) (by omega), hok 42 (by omega) (by omega), hok 43 (by omega) (by omega)]
    simp only [tr_clsA13]
    obtain ⟨w1, e0⟩ : ∃ w : Int, w = atF l1 40 16 := ⟨_, rfl⟩
    obtain ⟨w2, e1⟩ : ∃ w : Int, w = atF l1 41 8 := ⟨_, rfl⟩
    obtain ⟨w3, e2⟩ : ∃ w : Int, w = atF l1 42 16 := ⟨_, rfl⟩
    obtain ⟨w4, e3⟩ : ∃ w : Int, w = atF l1 43 40 := ⟨_, rfl⟩
    have g0 : 0 ≤ w1 ∧ w1 < 16 := by rw [e0]; exact hat _ _ (by omega) (by omega) (by omega)
    have g1 : 0 ≤ w2 ∧ w2 < 8 := by rw [e1]; exact hat _ _ (by omega) (by omega) (by omega)
    have g2 : 0 ≤ w3 ∧ w3 < 16 := by rw [e2]; exact hat _ _ (by omega) (by omega) (by omega)
    have g3 : 0 ≤ w4 ∧ w4 < 40 := by rw [e3]; exact hat _ _ (by omega) (by omega) (by omega)
    obtain ⟨A0, rfl⟩ : ∃ a : Nat, w1 = (a : Int) := ⟨Int.toNat w1, by omega⟩
    obtain ⟨A1, rfl⟩ : ∃ a : Nat, w2 = (a : Int) := ⟨Int.toNat w2, by omega⟩
    obtain ⟨A2, rfl⟩ : ∃ a : Nat, w3 = (a : Int) := ⟨Int.toNat w3, by omega⟩
    obtain ⟨A3, rfl⟩ : ∃ a : Nat, w4 = (a : Int) := ⟨Int.toNat w4, by omega⟩
    refine Eq.trans (b := rA (A0 : Int) (A1 : Int) (A2 : Int) (A3 : Int) [.at false (.int .u8 l0), .at false (.int .u8 l1)] (fun w bn tn lb le => ce_clsA13_1 40 m w bn tn l0 l1 lb le)) ?_ (Eq.trans (clA (by omega) (by omega) (by omega) (by omega) [.at false (.int .u8 l0), .at false (.int .u8 l1)] (fun w bn tn lb le => ce_clsA13_1 40 m w bn tn l0 l1 lb le)) ?_)
    · rw [e3, e2, e1, e0]
      kernel_rfl
    · show ce_clsA13_1 40 m (wF (A0 : Int)) (A1 + 1) (v_be (rF (A2 : Int)) (bdF (rF (A2 : Int)) (A3 : Int))).1 l0 l1 (v_bx (wF (A0 : Int)) ((A1 + 1 : Nat) : Int)).2 (v_be (rF (A2 : Int)) (bdF (rF (A2 : Int)) (A3 : Int))).2 = _
      unfold ce_clsA13_1
      simp only [tr_clsA19]
      refine Eq.trans ((be_ok (A := A2) (J := A3) (by omega) (by omega)).2.2 _ _ _ _ _) ?_
      show ce_clsA19_1 40 m (wF (A0 : Int)) (A1 + 1) l0 l1 (v_bx (wF (A0 : Int)) ((A1 + 1 : Nat) : Int)).2 = _
      unfold ce_clsA19_1
      rw [hok 44 (by omega) (by omega)]
      obtain ⟨y0, q0⟩ : ∃ w : Int, w = atF l1 44 32 := ⟨_, rfl⟩
      have r0 : 0 ≤ y0 ∧ y0 < 32 := by rw [q0]; exact hat _ _ (by omega) (by omega) (by omega)
      obtain ⟨B0, rfl⟩ : ∃ a : Nat, y0 = (a : Int) := ⟨Int.toNat y0, by omega⟩
      refine Eq.trans ?_ (clC (d := B0) (wF_mem (A := A0) (by omega)) (show A1 < 8 by omega) (by omega) [.at false (.int .u8 l0), .at false (.int .u8 l1)])
      rw [q0]
      kernel_rfl
theorem H_clsB (n : Nat) (l0 : List Int) : md_clsB 40 n l0 = some (.bool true, [.at false (.int .u8 l0)]) := by
  unfold md_clsB
  cases hg : longB n 0 with
  | true => rfl
  | false =>
    unfold longB at hg
    simp only [Bool.or_eq_false_iff, decide_eq_false_iff_not] at hg
    have hb' : bytesB [] = true := rfl
    have hok : ∀ i : Int, 0 ≤ i → i < 1000 → atOk 0 [] i = true := fun i h1 h2 => decide_eq_true ⟨rfl, by omega, h1, h2⟩
    have hat : ∀ i k : Int, 0 ≤ i → i < 1000 → 1 ≤ k → 0 ≤ atF [] i k ∧ atF [] i k < k := fun i k h1 h2 h3 => atF_range hb' h1 h2 h3
    rw [hok 40 (by omega) (by omega), hok 41 (by omega) (by omega), hok 42 (by omega) (by omega), hok 43 (by omega) (by omega)]
    simp only [tr_clsB13]
    obtain ⟨w1, e0⟩ : ∃ w : Int, w = atF [] 40 16 := ⟨_, rfl⟩
    obtain ⟨w2, e1⟩ : ∃ w : Int, w = atF [] 41 8 := ⟨_, rfl⟩
    obtain ⟨w3, e2⟩ : ∃ w : Int, w = atF [] 42 16 := ⟨_, rfl⟩
    obtain ⟨w4, e3⟩ : ∃ w : Int, w = atF [] 43 40 := ⟨_, rfl⟩
    have g0 : 0 ≤ w1 ∧ w1 < 16 := by rw [e0]; exact hat _ _ (by omega) (by omega) (by omega)
    have g1 : 0 ≤ w2 ∧ w2 < 8 := by rw [e1]; exact hat _ _ (by omega) (by omega) (by omega)
    have g2 : 0 ≤ w3 ∧ w3 < 16 := by rw [e2]; exact hat _ _ (by omega) (by omega) (by omega)
    have g3 : 0 ≤ w4 ∧ w4 < 40 := by rw [e3]; exact hat _ _ (by omega) (by omega) (by omega)
    obtain ⟨A0, rfl⟩ : ∃ a : Nat, w1 = (a : Int) := ⟨Int.toNat w1, by omega⟩
    obtain ⟨A1, rfl⟩ : ∃ a : Nat, w2 = (a : Int) := ⟨Int.toNat w2, by omega⟩
    obtain ⟨A2, rfl⟩ : ∃ a : Nat, w3 = (a : Int) := ⟨Int.toNat w3, by omega⟩
    obtain ⟨A3, rfl⟩ : ∃ a : Nat, w4 = (a : Int) := ⟨Int.toNat w4, by omega⟩
    refine Eq.trans (b := rA (A0 : Int) (A1 : Int) (A2 : Int) (A3 : Int) [.at false (.int .u8 l0)] (fun w bn tn lb le => ce_clsB13_1 40 w bn tn l0 lb le)) ?_ (Eq.trans (clA (by omega) (by omega) (by omega) (by omega) [.at false (.int .u8 l0)] (fun w bn tn lb le => ce_clsB13_1 40 w bn tn l0 lb le)) ?_)
    · rw [e3, e2, e1, e0]
      kernel_rfl
    · show ce_clsB13_1 40 (wF (A0 : Int)) (A1 + 1) (v_be (rF (A2 : Int)) (bdF (rF (A2 : Int)) (A3 : Int))).1 l0 (v_bx (wF (A0 : Int)) ((A1 + 1 : Nat) : Int)).2 (v_be (rF (A2 : Int)) (bdF (rF (A2 : Int)) (A3 : Int))).2 = _
      unfold ce_clsB13_1
      simp only [tr_clsB19]
      refine Eq.trans ((be_ok (A := A2) (J := A3) (by omega) (by omega)).2.2 _ _ _ _ _) ?_
      show ce_clsB19_1 40 (wF (A0 : Int)) (A1 + 1) l0 (v_bx (wF (A0 : Int)) ((A1 + 1 : Nat) : Int)).2 = _
      unfold ce_clsB19_1
      rw [hok 44 (by omega) (by omega)]
      obtain ⟨y0, q0⟩ : ∃ w : Int, w = atF [] 44 32 := ⟨_, rfl⟩
      have r0 : 0 ≤ y0 ∧ y0 < 32 := by rw [q0]; exact hat _ _ (by omega) (by omega) (by omega)
      obtain ⟨B0, rfl⟩ : ∃ a : Nat, y0 = (a : Int) := ⟨Int.toNat y0, by omega⟩
      refine Eq.trans ?_ (clC (d := B0) (wF_mem (A := A0) (by omega)) (show A1 < 8 by omega) (by omega) [.at false (.int .u8 l0)])
      rw [q0]
      kernel_rfl
theorem H_clsC (m : Nat) (l1 : List Int) (hl : l1.length = m) (hb : bytesB l1 = true) : md_clsC 40 m l1 = some (.bool true, [.at false (.int .u8 l1)]) := by
  unfold md_clsC
  cases hg : longB 0 m with
  | true => rfl
  | false =>
    unfold longB at hg
    simp only [Bool.or_eq_false_iff, decide_eq_false_iff_not] at hg
    have hb' : bytesB l1 = true := hb
    have hok : ∀ i : Int, 0 ≤ i → i < 1000 → atOk m l1 i = true := fun i h1 h2 => decide_eq_true ⟨hl, by omega, h1, h2⟩
    have hat : ∀ i k : Int, 0 ≤ i → i < 1000 → 1 ≤ k → 0 ≤ atF l1 i k ∧ atF l1 i k < k := fun i k h1 h2 h3 => atF_range hb' h1 h2 h3
    rw [hok 40 (by omega) (by omega), hok 41 (by omega) (by omega), hok 42 (by omega) (by omega), hok 43 (by omega) (by omega)]
    simp only [tr_clsC13]
    obtain ⟨w1, e0⟩ : ∃ w : Int, w = atF l1 40 16 := ⟨_, rfl⟩
    obtain ⟨w2, e1⟩ : ∃ w : Int, w = atF l1 41 8 := ⟨_, rfl⟩
    obtain ⟨w3, e2⟩ : ∃ w : Int, w = atF l1 42 16 := ⟨_, rfl⟩
    obtain ⟨w4, e3⟩ : ∃ w : Int, w = atF l1 43 40 := ⟨_, rfl⟩
    have g0 : 0 ≤ w1 ∧ w1 < 16 := by rw [e0]; exact hat _ _ (by omega) (by omega) (by omega)
    have g1 : 0 ≤ w2 ∧ w2 < 8 := by rw [e1]; exact hat _ _ (by omega) (by omega) (by omega)
    have g2 : 0 ≤ w3 ∧ w3 < 16 := by rw [e2]; exact hat _ _ (by omega) (by omega) (by omega)
    have g3 : 0 ≤ w4 ∧ w4 < 40 := by rw [e3]; exact hat _ _ (by omega) (by omega) (by omega)
    obtain ⟨A0, rfl⟩ : ∃ a : Nat, w1 = (a : Int) := ⟨Int.toNat w1, by omega⟩
    obtain ⟨A1, rfl⟩ : ∃ a : Nat, w2 = (a : Int) := ⟨Int.toNat w2, by omega⟩
    obtain ⟨A2, rfl⟩ : ∃ a : Nat, w3 = (a : Int) := ⟨Int.toNat w3, by omega⟩
    obtain ⟨A3, rfl⟩ : ∃ a : Nat, w4 = (a : Int) := ⟨Int.toNat w4, by omega⟩
    refine Eq.trans (b := rA (A0 : Int) (A1 : Int) (A2 : Int) (A3 : Int) [.at false (.int .u8 l1)] (fun w bn tn lb le => ce_clsC13_1 40 m w bn tn l1 lb le)) ?_ (Eq.trans (clA (by omega) (by omega) (by omega) (by omega) [.at false (.int .u8 l1)] (fun w bn tn lb le => ce_clsC13_1 40 m w bn tn l1 lb le)) ?_)
    · rw [e3, e2, e1, e0]
      kernel_rfl
    · show ce_clsC13_1 40 m (wF (A0 : Int)) (A1 + 1) (v_be (rF (A2 : Int)) (bdF (rF (A2 : Int)) (A3 : Int))).1 l1 (v_bx (wF (A0 : Int)) ((A1 + 1 : Nat) : Int)).2 (v_be (rF (A2 : Int)) (bdF (rF (A2 : Int)) (A3 : Int))).2 = _
      unfold ce_clsC13_1
      simp only [tr_clsC19]
      refine Eq.trans ((be_ok (A := A2) (J := A3) (by omega) (by omega)).2.2 _ _ _ _ _) ?_
      show ce_clsC19_1 40 m (wF (A0 : Int)) (A1 + 1) l1 (v_bx (wF (A0 : Int)) ((A1 + 1 : Nat) : Int)).2 = _
      unfold ce_clsC19_1
      rw [hok 44 (by omega) (by omega)]
      obtain ⟨y0, q0⟩ : ∃ w : Int, w = atF l1 44 32 := ⟨_, rfl⟩
      have r0 : 0 ≤ y0 ∧ y0 < 32 := by rw [q0]; exact hat _ _ (by omega) (by omega) (by omega)
      obtain ⟨B0, rfl⟩ : ∃ a : Nat, y0 = (a : Int) := ⟨Int.toNat y0, by omega⟩
      refine Eq.trans ?_ (clC (d := B0) (wF_mem (A := A0) (by omega)) (show A1 < 8 by omega) (by omega) [.at false (.int .u8 l1)])
      rw [q0]
      kernel_rfl
theorem H_clsD  : md_clsD 40  = some (.bool true, []) := by
  unfold md_clsD
  cases hg : longB 0 0 with
  | true => rfl
  | false =>
    unfold longB at hg
    simp only [Bool.or_eq_false_iff, decide_eq_false_iff_not] at hg
    have hb' : bytesB [] = true := rfl
    have hok : ∀ i : Int, 0 ≤ i → i < 1000 → atOk 0 [] i = true := fun i h1 h2 => decide_eq_true ⟨rfl, by omega, h1, h2⟩
    have hat : ∀ i k : Int, 0 ≤ i → i < 1000 → 1 ≤ k → 0 ≤ atF [] i k ∧ atF [] i k < k := fun i k h1 h2 h3 => atF_range hb' h1 h2 h3
    rw [hok 40 (by omega) (by omega), hok 41 (by omega) (by omega), hok 42 (by omega) (by omega), hok 43 (by omega) (by omega)]
    obtain ⟨w1, e0⟩ : ∃ w : Int, w = atF [] 40 16 := ⟨_, rfl⟩
    obtain ⟨w2, e1⟩ : ∃ w : Int, w = atF [] 41 8 := ⟨_, rfl⟩
    obtain ⟨w3, e2⟩ : ∃ w : Int, w = atF [] 42 16 := ⟨_, rfl⟩
    obtain ⟨w4, e3⟩ : ∃ w : Int, w = atF [] 43 40 := ⟨_, rfl⟩
    have g0 : 0 ≤ w1 ∧ w1 < 16 := by rw [e0]; exact hat _ _ (by omega) (by omega) (by omega)
    have g1 : 0 ≤ w2 ∧ w2 < 8 := by rw [e1]; exact hat _ _ (by omega) (by omega) (by omega)
    have g2 : 0 ≤ w3 ∧ w3 < 16 := by rw [e2]; exact hat _ _ (by omega) (by omega) (by omega)
    have g3 : 0 ≤ w4 ∧ w4 < 40 := by rw [e3]; exact hat _ _ (by omega) (by omega) (by omega)
    obtain ⟨A0, rfl⟩ : ∃ a : Nat, w1 = (a : Int) := ⟨Int.toNat w1, by omega⟩
    obtain ⟨A1, rfl⟩ : ∃ a : Nat, w2 = (a : Int) := ⟨Int.toNat w2, by omega⟩
    obtain ⟨A2, rfl⟩ : ∃ a : Nat, w3 = (a : Int) := ⟨Int.toNat w3, by omega⟩
    obtain ⟨A3, rfl⟩ : ∃ a : Nat, w4 = (a : Int) := ⟨Int.toNat w4, by omega⟩
    refine Eq.trans (b := rA (A0 : Int) (A1 : Int) (A2 : Int) (A3 : Int) [] (fun w bn tn lb le => ce_clsD13_1 40 w bn tn lb le)) ?_ (Eq.trans (clA (by omega) (by omega) (by omega) (by omega) [] (fun w bn tn lb le => ce_clsD13_1 40 w bn tn lb le)) ?_)
    · rw [e3, e2, e1, e0]
      kernel_rfl
    · show ce_clsD13_1 40 (wF (A0 : Int)) (A1 + 1) (v_be (rF (A2 : Int)) (bdF (rF (A2 : Int)) (A3 : Int))).1 (v_bx (wF (A0 : Int)) ((A1 + 1 : Nat) : Int)).2 (v_be (rF (A2 : Int)) (bdF (rF (A2 : Int)) (A3 : Int))).2 = _
      unfold ce_clsD13_1
      refine Eq.trans ((be_ok (A := A2) (J := A3) (by omega) (by omega)).2.2 _ _ _ _ _) ?_
      show ce_clsD19_1 40 (wF (A0 : Int)) (A1 + 1) (v_bx (wF (A0 : Int)) ((A1 + 1 : Nat) : Int)).2 = _
      unfold ce_clsD19_1
      rw [hok 44 (by omega) (by omega)]
      obtain ⟨y0, q0⟩ : ∃ w : Int, w = atF [] 44 32 := ⟨_, rfl⟩
      have r0 : 0 ≤ y0 ∧ y0 < 32 := by rw [q0]; exact hat _ _ (by omega) (by omega) (by omega)
      obtain ⟨B0, rfl⟩ : ∃ a : Nat, y0 = (a : Int) := ⟨Int.toNat y0, by omega⟩
      refine Eq.trans ?_ (clC (d := B0) (wF_mem (A := A0) (by omega)) (show A1 < 8 by omega) (by omega) [])
      rw [q0]
      kernel_rfl
noncomputable section
def gBytes : G := fun vs h => match vs, h with
  | [.sl 0 0 n, .sl 1 0 m], [.at false (.int .u8 l0), .at false (.int .u8 l1)] => if n = l0.length ∧ m = l1.length ∧ bytesB l0 = true ∧ bytesB l1 = true then some (.bool true, [.at false (.int .u8 l0), .at false (.int .u8 l1)]) else none
  | [.sl 0 0 n, .nil], [.at false (.int .u8 l0)] => if n = l0.length ∧ bytesB l0 = true then some (.bool true, [.at false (.int .u8 l0)]) else none
  | [.nil, .sl 0 0 m], [.at false (.int .u8 l1)] => if m = l1.length ∧ bytesB l1 = true then some (.bool true, [.at false (.int .u8 l1)]) else none
  | [.nil, .nil], [] => some (.bool true, [])
  | _, _ => none
theorem bytes_wf {l : List Int} (h : ∀ z ∈ l, (Lit.int .u8 z).wf = true) : bytesB l = true := by
  unfold bytesB
  rw [List.all_eq_true]
  intro z hz
  have hw := h z hz
  simp only [Lit.wf, Bool.and_eq_true, decide_eq_true_eq] at hw
  have h1 : (0 : Int) ≤ z := hw.1
  have h2 : z ≤ 255 := hw.2
  exact decide_eq_true (by omega)
theorem ok_lawcls : FnOk Try.prog 3 gBytes := by
  intro vs hp v h' e
  rw [T.run_of] at e
  unfold gBytes at e
  split at e
  · rename_i n m l0 l1
    split at e
    · rename_i hc
      cases e
      refine FnT.runs tabok_clsA Try.func3 rfl rfl an_clsA 40 _ _ _ _ ?_
      rw [T.run_of]
      exact Eq.trans (mdl_clsA 40 n m l0 l1) (H_clsA n m l0 l1 hc.2.1.symm hc.2.2.2)
    · cases e
  · rename_i n l0
    split at e
    · rename_i hc
      cases e
      refine FnT.runs tabok_clsB Try.func3 rfl rfl an_clsB 40 _ _ _ _ ?_
      rw [T.run_of]
      exact Eq.trans (mdl_clsB 40 n l0) (H_clsB n l0)
    · cases e
  · rename_i m l1
    split at e
    · rename_i hc
      cases e
      refine FnT.runs tabok_clsC Try.func3 rfl rfl an_clsC 40 _ _ _ _ ?_
      rw [T.run_of]
      exact Eq.trans (mdl_clsC 40 m l1) (H_clsC m l1 hc.1.symm hc.2)
    · cases e
  · cases e
    refine FnT.runs tabok_clsD Try.func3 rfl rfl an_clsD 40 _ _ _ _ ?_
    rw [T.run_of]
    exact Eq.trans (mdl_clsD 40) H_clsD
  · cases e
end
end Go.Proofs.Ytlopdogjdfeikaa.Ab
