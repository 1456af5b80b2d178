/- FnShells. Only lemmas. Printed by gen_shells.py. -/
import Derived.Test.YtbbggpcbnahgiaaShC
namespace Go.Proofs.Ytbbggpcbnahgiaa.Ab
set_option linter.unusedVariables false
set_option linter.unusedSimpArgs false
open Go
theorem shl_0_0 (hh : H) : shlB 0 0 hh = some (.bool true, hh) := by kernel_rfl
theorem shl_0_1 (hh : H) : shlB 0 1 hh = some (.bool true, hh) := by kernel_rfl
theorem shl_0_2 (hh : H) : shlB 0 2 hh = some (.bool true, hh) := by kernel_rfl
theorem shl_1_0 (hh : H) : shlB 1 0 hh = some (.bool true, hh) := by kernel_rfl
theorem shl_1_1 (hh : H) : shlB 1 1 hh = some (.bool true, hh) := by kernel_rfl
theorem shl_1_2 (hh : H) : shlB 1 2 hh = some (.bool true, hh) := by kernel_rfl
theorem shl_1_3 (hh : H) : shlB 1 3 hh = some (.bool true, hh) := by kernel_rfl
theorem shl_1_4 (hh : H) : shlB 1 4 hh = some (.bool true, hh) := by kernel_rfl
theorem shl_1_5 (hh : H) : shlB 1 5 hh = some (.bool true, hh) := by kernel_rfl
theorem shl_1_6 (hh : H) : shlB 1 6 hh = some (.bool true, hh) := by kernel_rfl
theorem shl_2_0 (hh : H) : shlB 2 0 hh = some (.bool true, hh) := by kernel_rfl
theorem shl_2_1 (hh : H) : shlB 2 1 hh = some (.bool true, hh) := by kernel_rfl
theorem shl_2_2 (hh : H) : shlB 2 2 hh = some (.bool true, hh) := by kernel_rfl
theorem shl_2_3 (hh : H) : shlB 2 3 hh = some (.bool true, hh) := by kernel_rfl
theorem shl_2_4 (hh : H) : shlB 2 4 hh = some (.bool true, hh) := by kernel_rfl
theorem shl_2_5 (hh : H) : shlB 2 5 hh = some (.bool true, hh) := by kernel_rfl
theorem shl_2_6 (hh : H) : shlB 2 6 hh = some (.bool true, hh) := by kernel_rfl
theorem shl_2_7 (hh : H) : shlB 2 7 hh = some (.bool true, hh) := by kernel_rfl
theorem shl_2_8 (hh : H) : shlB 2 8 hh = some (.bool true, hh) := by kernel_rfl
theorem shl_2_9 (hh : H) : shlB 2 9 hh = some (.bool true, hh) := by kernel_rfl
theorem shl_2_10 (hh : H) : shlB 2 10 hh = some (.bool true, hh) := by kernel_rfl
theorem c1 {x : Int} (h : 0 ≤ x ∧ x < 1) : x = 0 := by omega
theorem c2 {x : Int} (h : 0 ≤ x ∧ x < 2) : x = 0 ∨ x = 1 := by omega
theorem c3 {x : Int} (h : 0 ≤ x ∧ x < 3) : x = 0 ∨ x = 1 ∨ x = 2 := by omega
theorem c4 {x : Int} (h : 0 ≤ x ∧ x < 4) : x = 0 ∨ x = 1 ∨ x = 2 ∨ x = 3 := by omega
theorem c5 {x : Int} (h : 0 ≤ x ∧ x < 5) : x = 0 ∨ x = 1 ∨ x = 2 ∨ x = 3 ∨ x = 4 := by omega
theorem c6 {x : Int} (h : 0 ≤ x ∧ x < 6) : x = 0 ∨ x = 1 ∨ x = 2 ∨ x = 3 ∨ x = 4 ∨ x = 5 := by omega
theorem c7 {x : Int} (h : 0 ≤ x ∧ x < 7) : x = 0 ∨ x = 1 ∨ x = 2 ∨ x = 3 ∨ x = 4 ∨ x = 5 ∨ x = 6 := by omega
theorem c8 {x : Int} (h : 0 ≤ x ∧ x < 8) : x = 0 ∨ x = 1 ∨ x = 2 ∨ x = 3 ∨ x = 4 ∨ x = 5 ∨ x = 6 ∨ x = 7 := by omega
theorem c9 {x : Int} (h : 0 ≤ x ∧ x < 9) : x = 0 ∨ x = 1 ∨ x = 2 ∨ x = 3 ∨ x = 4 ∨ x = 5 ∨ x = 6 ∨ x = 7 ∨ x = 8 := by omega
theorem c10 {x : Int} (h : 0 ≤ x ∧ x < 10) : x = 0 ∨ x = 1 ∨ x = 2 ∨ x = 3 ∨ x = 4 ∨ x = 5 ∨ x = 6 ∨ x = 7 ∨ x = 8 ∨ x = 9 := by omega
theorem c11 {x : Int} (h : 0 ≤ x ∧ x < 11) : x = 0 ∨ x = 1 ∨ x = 2 ∨ x = 3 ∨ x = 4 ∨ x = 5 ∨ x = 6 ∨ x = 7 ∨ x = 8 ∨ x = 9 ∨ x = 10 := by omega
theorem shl_main {w2 w3 : Int} (hh : H) (h2 : 0 ≤ w2 ∧ w2 < 3) (h3 : 0 ≤ w3 ∧ w3 < (IntKind.i64.wrap ((IntKind.i64.wrap (4 * w2)) + 3))) : shlB w2 w3 hh = some (.bool true, hh) := by
  rcases c3 h2 with rfl | rfl | rfl
  · rw [show (IntKind.i64.wrap ((IntKind.i64.wrap (4 * (0 : Int))) + 3)) = 3 by kernel_rfl] at h3
    rcases c3 h3 with rfl | rfl | rfl
    · exact shl_0_0 hh
    · exact shl_0_1 hh
    · exact shl_0_2 hh
  · rw [show (IntKind.i64.wrap ((IntKind.i64.wrap (4 * (1 : Int))) + 3)) = 7 by kernel_rfl] at h3
    rcases c7 h3 with rfl | rfl | rfl | rfl | rfl | rfl | rfl
    · exact shl_1_0 hh
    · exact shl_1_1 hh
    · exact shl_1_2 hh
    · exact shl_1_3 hh
    · exact shl_1_4 hh
    · exact shl_1_5 hh
    · exact shl_1_6 hh
  · rw [show (IntKind.i64.wrap ((IntKind.i64.wrap (4 * (2 : Int))) + 3)) = 11 by kernel_rfl] at h3
    rcases c11 h3 with rfl | rfl | rfl | rfl | rfl | rfl | rfl | rfl | rfl | rfl | rfl
    · exact shl_2_0 hh
    · exact shl_2_1 hh
    · exact shl_2_2 hh
    · exact shl_2_3 hh
    · exact shl_2_4 hh
    · exact shl_2_5 hh
    · exact shl_2_6 hh
    · exact shl_2_7 hh
    · exact shl_2_8 hh
    · exact shl_2_9 hh
    · exact shl_2_10 hh
theorem H_shlA (n : Nat) (m : Nat) (l0 : List Int) (l1 : List Int) (hl : l1.length = m) (hb : bytesB l1 = true) : md_shlA 40 n m l0 l1 = some (.bool true, [.at false (.int .u8 l0), .at false (.int .u8 l1)]) := by
  unfold md_shlA
  cases hg : longB n m with
  | true => rfl
  | false =>
    unfold longB at hg
    simp only [Bool.or_eq_false_iff, decide_eq_false_iff_not] at hg
    have hb' : bytesB l1 = true := hb
    have hok : ∀ i : Int, 0 ≤ i → i < 1000 → atOk m l1 i = true := fun i h1 h2 => decide_eq_true ⟨hl, by omega, h1, h2⟩
    have hat : ∀ i k : Int, 0 ≤ i → i < 1000 → 1 ≤ k → 0 ≤ atF l1 i k ∧ atF l1 i k < k := fun i k h1 h2 h3 => atF_range hb' h1 h2 h3
    rw [hok 0 (by omega) (by omega), hok 1 (by omega) (by omega)]
    simp only [tr_shlA13]
    obtain ⟨w2, e0⟩ : ∃ w : Int, w = atF l1 0 3 := ⟨_, rfl⟩
    obtain ⟨w3, e1⟩ : ∃ w : Int, w = atF l1 1 (IntKind.i64.wrap ((IntKind.i64.wrap (4 * w2)) + 3)) := ⟨_, rfl⟩
    have g0 : 0 ≤ w2 ∧ w2 < 3 := by rw [e0]; exact hat _ _ (by omega) (by omega) (by omega)
    have g1 : 0 ≤ w3 ∧ w3 < (IntKind.i64.wrap ((IntKind.i64.wrap (4 * w2)) + 3)) := by rw [e1]; exact hat _ _ (by omega) (by omega) (by rw [wrap_n (n := 4 * w2) (by omega) (by omega), wrap_n (by omega) (by omega)]; omega)
    refine Eq.trans ?_ (shl_main [.at false (.int .u8 l0), .at false (.int .u8 l1)] g0 g1)
    rw [e1, e0]
    kernel_rfl
theorem H_shlB (n : Nat) (l0 : List Int) : md_shlB 40 n l0 = some (.bool true, [.at false (.int .u8 l0)]) := by
  unfold md_shlB
  cases hg : longB n 0 with
  | true => rfl
  | false =>
    unfold longB at hg
    simp only [Bool.or_eq_false_iff, decide_eq_false_iff_not] at hg
    have hb' : bytesB [] = true := rfl
    have hok : ∀ i : Int, 0 ≤ i → i < 1000 → atOk 0 [] i = true := fun i h1 h2 => decide_eq_true ⟨rfl, by omega, h1, h2⟩
    have hat : ∀ i k : Int, 0 ≤ i → i < 1000 → 1 ≤ k → 0 ≤ atF [] i k ∧ atF [] i k < k := fun i k h1 h2 h3 => atF_range hb' h1 h2 h3
    rw [hok 0 (by omega) (by omega), hok 1 (by omega) (by omega)]
    simp only [tr_shlB13]
    obtain ⟨w2, e0⟩ : ∃ w : Int, w = atF [] 0 3 := ⟨_, rfl⟩
    obtain ⟨w3, e1⟩ : ∃ w : Int, w = atF [] 1 (IntKind.i64.wrap ((IntKind.i64.wrap (4 * w2)) + 3)) := ⟨_, rfl⟩
    have g0 : 0 ≤ w2 ∧ w2 < 3 := by rw [e0]; exact hat _ _ (by omega) (by omega) (by omega)
    have g1 : 0 ≤ w3 ∧ w3 < (IntKind.i64.wrap ((IntKind.i64.wrap (4 * w2)) + 3)) := by rw [e1]; exact hat _ _ (by omega) (by omega) (by rw [wrap_n (n := 4 * w2) (by omega) (by omega), wrap_n (by omega) (by omega)]; omega)
    refine Eq.trans ?_ (shl_main [.at false (.int .u8 l0)] g0 g1)
    rw [e1, e0]
    kernel_rfl
theorem H_shlC (m : Nat) (l1 : List Int) (hl : l1.length = m) (hb : bytesB l1 = true) : md_shlC 40 m l1 = some (.bool true, [.at false (.int .u8 l1)]) := by
  unfold md_shlC
  cases hg : longB 0 m with
  | true => rfl
  | false =>
    unfold longB at hg
    simp only [Bool.or_eq_false_iff, decide_eq_false_iff_not] at hg
    have hb' : bytesB l1 = true := hb
    have hok : ∀ i : Int, 0 ≤ i → i < 1000 → atOk m l1 i = true := fun i h1 h2 => decide_eq_true ⟨hl, by omega, h1, h2⟩
    have hat : ∀ i k : Int, 0 ≤ i → i < 1000 → 1 ≤ k → 0 ≤ atF l1 i k ∧ atF l1 i k < k := fun i k h1 h2 h3 => atF_range hb' h1 h2 h3
    rw [hok 0 (by omega) (by omega), hok 1 (by omega) (by omega)]
    simp only [tr_shlC13]
    obtain ⟨w2, e0⟩ : ∃ w : Int, w = atF l1 0 3 := ⟨_, rfl⟩
    obtain ⟨w3, e1⟩ : ∃ w : Int, w = atF l1 1 (IntKind.i64.wrap ((IntKind.i64.wrap (4 * w2)) + 3)) := ⟨_, rfl⟩
    have g0 : 0 ≤ w2 ∧ w2 < 3 := by rw [e0]; exact hat _ _ (by omega) (by omega) (by omega)
    have g1 : 0 ≤ w3 ∧ w3 < (IntKind.i64.wrap ((IntKind.i64.wrap (4 * w2)) + 3)) := by rw [e1]; exact hat _ _ (by omega) (by omega) (by rw [wrap_n (n := 4 * w2) (by omega) (by omega), wrap_n (by omega) (by omega)]; omega)
    refine Eq.trans ?_ (shl_main [.at false (.int .u8 l1)] g0 g1)
    rw [e1, e0]
    kernel_rfl
theorem H_shlD  : md_shlD 40  = some (.bool true, []) := by
  unfold md_shlD
  cases hg : longB 0 0 with
  | true => rfl
  | false =>
    unfold longB at hg
    simp only [Bool.or_eq_false_iff, decide_eq_false_iff_not] at hg
    have hb' : bytesB [] = true := rfl
    have hok : ∀ i : Int, 0 ≤ i → i < 1000 → atOk 0 [] i = true := fun i h1 h2 => decide_eq_true ⟨rfl, by omega, h1, h2⟩
    have hat : ∀ i k : Int, 0 ≤ i → i < 1000 → 1 ≤ k → 0 ≤ atF [] i k ∧ atF [] i k < k := fun i k h1 h2 h3 => atF_range hb' h1 h2 h3
    rw [hok 0 (by omega) (by omega), hok 1 (by omega) (by omega)]
    obtain ⟨w2, e0⟩ : ∃ w : Int, w = atF [] 0 3 := ⟨_, rfl⟩
    obtain ⟨w3, e1⟩ : ∃ w : Int, w = atF [] 1 (IntKind.i64.wrap ((IntKind.i64.wrap (4 * w2)) + 3)) := ⟨_, rfl⟩
    have g0 : 0 ≤ w2 ∧ w2 < 3 := by rw [e0]; exact hat _ _ (by omega) (by omega) (by omega)
    have g1 : 0 ≤ w3 ∧ w3 < (IntKind.i64.wrap ((IntKind.i64.wrap (4 * w2)) + 3)) := by rw [e1]; exact hat _ _ (by omega) (by omega) (by rw [wrap_n (n := 4 * w2) (by omega) (by omega), wrap_n (by omega) (by omega)]; omega)
    refine Eq.trans ?_ (shl_main [] g0 g1)
    rw [e1, e0]
    kernel_rfl
noncomputable section
def gBytes : G := fun vs h => match vs, h with
  | [.sl 0 0 n, .sl 1 0 m], [.at false (.int .u8 l0), .at false (.int .u8 l1)] => if n = l0.length ∧ m = l1.length ∧ bytesB l0 = true ∧ bytesB l1 = true then some (.bool true, [.at false (.int .u8 l0), .at false (.int .u8 l1)]) else none
  | [.sl 0 0 n, .nil], [.at false (.int .u8 l0)] => if n = l0.length ∧ bytesB l0 = true then some (.bool true, [.at false (.int .u8 l0)]) else none
  | [.nil, .sl 0 0 m], [.at false (.int .u8 l1)] => if m = l1.length ∧ bytesB l1 = true then some (.bool true, [.at false (.int .u8 l1)]) else none
  | [.nil, .nil], [] => some (.bool true, [])
  | _, _ => none
theorem bytes_wf {l : List Int} (h : ∀ z ∈ l, (Lit.int .u8 z).wf = true) : bytesB l = true := by
  unfold bytesB
  rw [List.all_eq_true]
  intro z hz
  have hw := h z hz
  simp only [Lit.wf, Bool.and_eq_true, decide_eq_true_eq] at hw
  have h1 : (0 : Int) ≤ z := hw.1
  have h2 : z ≤ 255 := hw.2
  exact decide_eq_true (by omega)
theorem ok_lawshl : FnOk Try.prog 4 gBytes := by
  intro vs hp v h' e
  rw [T.run_of] at e
  unfold gBytes at e
  split at e
  · rename_i n m l0 l1
    split at e
    · rename_i hc
      cases e
      refine FnT.runs tabok_shlA Try.func4 rfl rfl an_shlA 40 _ _ _ _ ?_
      rw [T.run_of]
      exact Eq.trans (mdl_shlA 40 n m l0 l1) (H_shlA n m l0 l1 hc.2.1.symm hc.2.2.2)
    · cases e
  · rename_i n l0
    split at e
    · rename_i hc
      cases e
      refine FnT.runs tabok_shlB Try.func4 rfl rfl an_shlB 40 _ _ _ _ ?_
      rw [T.run_of]
      exact Eq.trans (mdl_shlB 40 n l0) (H_shlB n l0)
    · cases e
  · rename_i m l1
    split at e
    · rename_i hc
      cases e
      refine FnT.runs tabok_shlC Try.func4 rfl rfl an_shlC 40 _ _ _ _ ?_
      rw [T.run_of]
      exact Eq.trans (mdl_shlC 40 m l1) (H_shlC m l1 hc.1.symm hc.2)
    · cases e
  · cases e
    refine FnT.runs tabok_shlD Try.func4 rfl rfl an_shlD 40 _ _ _ _ ?_
    rw [T.run_of]
    exact Eq.trans (mdl_shlD 40) H_shlD
  · cases e
end
end Go.Proofs.Ytbbggpcbnahgiaa.Ab
