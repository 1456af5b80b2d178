/- What the proof names: lemmas and words, merged by a program from its parts. No condition. -/
import Derived.Test.YtppdnhjcnjfppaaZ9
namespace Go.Proofs.Ytppdnhjcnjfppaa.Ab
set_option linter.unusedVariables false
set_option linter.unusedSimpArgs false
open Go
def stO_soS_3 (k : Int) (m : Nat → Nat) : St := ⟨(.sl 5 0 3 :: .sl 6 0 3 :: .any :: .any :: .any :: .any :: .int .i64 3 :: .int .i64 k :: (anys 194 [])), [.gone, .gone, .gone, .gone, .gone, .at true (.as 1 [.sl 7 0 3, .sl 8 0 3, .sl 9 0 3]), .at true (.fl .f32 [m 3, m 7, m 11]), .at true (.fl .f32 [m 0, m 1, m 2]), .at true (.fl .f32 [m 4, m 5, m 6]), .at true (.fl .f32 [m 8, m 9, m 10])]⟩
def stS_soS_3 (k : Int) (i : Int) (a : Int) (m : Nat → Nat) : St := ⟨(.sl 5 0 3 :: .sl 6 0 3 :: .any :: .any :: .any :: .any :: .int .i64 3 :: .int .i64 k :: .int .i64 a :: .int .i64 i :: (anys 192 [])), [.gone, .gone, .gone, .gone, .gone, .at true (.as 1 [.sl 7 0 3, .sl 8 0 3, .sl 9 0 3]), .at true (.fl .f32 [m 3, m 7, m 11]), .at true (.fl .f32 [m 0, m 1, m 2]), .at true (.fl .f32 [m 4, m 5, m 6]), .at true (.fl .f32 [m 8, m 9, m 10])]⟩
def sts_soS_3 (k : Int) (a : Int) (m : Nat → Nat) : St := ⟨(.sl 5 0 3 :: .sl 6 0 3 :: .any :: .any :: .any :: .any :: .int .i64 3 :: .int .i64 k :: .int .i64 a :: (anys 193 [])), [.gone, .gone, .gone, .gone, .gone, .at true (.as 1 [.sl 7 0 3, .sl 8 0 3, .sl 9 0 3]), .at true (.fl .f32 [m 3, m 7, m 11]), .at true (.fl .f32 [m 0, m 1, m 2]), .at true (.fl .f32 [m 4, m 5, m 6]), .at true (.fl .f32 [m 8, m 9, m 10])]⟩
def stE_soS_3 (k : Int) (i : Int) (m : Nat → Nat) : St := ⟨(.sl 5 0 3 :: .sl 6 0 3 :: .any :: .any :: .any :: .any :: .int .i64 3 :: .int .i64 k :: .any :: .any :: .any :: .any :: .int .i64 i :: (anys 189 [])), [.gone, .gone, .gone, .gone, .gone, .at true (.as 1 [.sl 7 0 3, .sl 8 0 3, .sl 9 0 3]), .at true (.fl .f32 [m 3, m 7, m 11]), .at true (.fl .f32 [m 0, m 1, m 2]), .at true (.fl .f32 [m 4, m 5, m 6]), .at true (.fl .f32 [m 8, m 9, m 10])]⟩
def ste_soS_3 (k : Int) (m : Nat → Nat) : St := ⟨(.sl 5 0 3 :: .sl 6 0 3 :: .any :: .any :: .any :: .any :: .int .i64 3 :: .int .i64 k :: (anys 194 [])), [.gone, .gone, .gone, .gone, .gone, .at true (.as 1 [.sl 7 0 3, .sl 8 0 3, .sl 9 0 3]), .at true (.fl .f32 [m 3, m 7, m 11]), .at true (.fl .f32 [m 0, m 1, m 2]), .at true (.fl .f32 [m 4, m 5, m 6]), .at true (.fl .f32 [m 8, m 9, m 10])]⟩
def stX_soS_3 (m : Nat → Nat) : St := ⟨(.sl 5 0 3 :: .sl 6 0 3 :: .any :: .any :: .any :: .any :: .int .i64 3 :: (anys 195 [])), [.gone, .gone, .gone, .gone, .gone, .at true (.as 1 [.sl 7 0 3, .sl 8 0 3, .sl 9 0 3]), .at true (.fl .f32 [m 3, m 7, m 11]), .at true (.fl .f32 [m 0, m 1, m 2]), .at true (.fl .f32 [m 4, m 5, m 6]), .at true (.fl .f32 [m 8, m 9, m 10])]⟩
def stR_soS_3 (m : Nat → Nat) : St := ⟨(.sl 5 0 3 :: .sl 6 0 3 :: .any :: .any :: .nil :: .bool false :: .int .i64 3 :: (anys 195 [])), [.gone, .gone, .gone, .gone, .gone, .at true (.as 1 [.sl 7 0 3, .sl 8 0 3, .sl 9 0 3]), .at true (.fl .f32 [m 3, m 7, m 11]), .at true (.fl .f32 [m 0, m 1, m 2]), .at true (.fl .f32 [m 4, m 5, m 6]), .at true (.fl .f32 [m 8, m 9, m 10])]⟩
theorem head_soS_3_0 {R : Type} (N M : Nat) (K : X → St → Option R) (m : Nat → Nat) : lpO_soS 5 N (M + 1) (stO_soS_3 0 m) K
    = lpS_soS 5 N N (stS_soS_3 0 1 0 m) (ktS_soS 5 N (bk_soS 5 N M K)) := by
  kernel_rfl
theorem se_soS_3_0_3_2 {R : Type} (N M : Nat) (K : X → St → Option R) (m : Nat → Nat) : lpS_soS 5 N (M + 1) (stS_soS_3 0 3 2 m) K
    = K (.exit 2) (sts_soS_3 0 2 m) := by
  kernel_rfl
theorem se_soS_3_0_3_1 {R : Type} (N M : Nat) (K : X → St → Option R) (m : Nat → Nat) : lpS_soS 5 N (M + 1) (stS_soS_3 0 3 1 m) K
    = K (.exit 2) (sts_soS_3 0 1 m) := by
  kernel_rfl
theorem se_soS_3_0_3_0 {R : Type} (N M : Nat) (K : X → St → Option R) (m : Nat → Nat) : lpS_soS 5 N (M + 1) (stS_soS_3 0 3 0 m) K
    = K (.exit 2) (sts_soS_3 0 0 m) := by
  kernel_rfl
theorem sf_soS_3_0_2_1 {R : Type} (N M : Nat) (K : X → St → Option R) (m : Nat → Nat) : lpS_soS 5 N (M + 1) (stS_soS_3 0 2 1 m) K
    = match gtB (sizB (m 8)) (sizB (m 4)) with | true => lpS_soS 5 N M (stS_soS_3 0 3 2 m) K | false => lpS_soS 5 N M (stS_soS_3 0 3 1 m) K := by
  kernel_rfl
theorem se_soS_3_0_2_1 {R : Type} (N M : Nat) (K : X → St → Option R) (m : Nat → Nat) : lpS_soS 5 N (M + 2) (stS_soS_3 0 2 1 m) K
    = K (.exit 2) (sts_soS_3 0 ((seaV sizB 4 0 m 1 2 1 : Nat) : Int) m) := by
  refine Eq.trans (sf_soS_3_0_2_1 N (M + 1) K m) ?_
  unfold seaV
  show _ = K _ (sts_soS_3 0 ((match gtB (sizB (m 8)) (sizB (m 4)) with | true => _ | false => _ : Nat) : Int) m)
  cases gtB (sizB (m 8)) (sizB (m 4))
  · exact se_soS_3_0_3_1 N M K m
  · exact se_soS_3_0_3_2 N M K m
theorem sf_soS_3_0_2_0 {R : Type} (N M : Nat) (K : X → St → Option R) (m : Nat → Nat) : lpS_soS 5 N (M + 1) (stS_soS_3 0 2 0 m) K
    = match gtB (sizB (m 8)) (sizB (m 0)) with | true => lpS_soS 5 N M (stS_soS_3 0 3 2 m) K | false => lpS_soS 5 N M (stS_soS_3 0 3 0 m) K := by
  kernel_rfl
theorem se_soS_3_0_2_0 {R : Type} (N M : Nat) (K : X → St → Option R) (m : Nat → Nat) : lpS_soS 5 N (M + 2) (stS_soS_3 0 2 0 m) K
    = K (.exit 2) (sts_soS_3 0 ((seaV sizB 4 0 m 1 2 0 : Nat) : Int) m) := by
  refine Eq.trans (sf_soS_3_0_2_0 N (M + 1) K m) ?_
  unfold seaV
  show _ = K _ (sts_soS_3 0 ((match gtB (sizB (m 8)) (sizB (m 0)) with | true => _ | false => _ : Nat) : Int) m)
  cases gtB (sizB (m 8)) (sizB (m 0))
  · exact se_soS_3_0_3_0 N M K m
  · exact se_soS_3_0_3_2 N M K m
theorem sf_soS_3_0_1_0 {R : Type} (N M : Nat) (K : X → St → Option R) (m : Nat → Nat) : lpS_soS 5 N (M + 1) (stS_soS_3 0 1 0 m) K
    = match gtB (sizB (m 4)) (sizB (m 0)) with | true => lpS_soS 5 N M (stS_soS_3 0 2 1 m) K | false => lpS_soS 5 N M (stS_soS_3 0 2 0 m) K := by
  kernel_rfl
theorem se_soS_3_0_1_0 {R : Type} (N M : Nat) (K : X → St → Option R) (m : Nat → Nat) : lpS_soS 5 N (M + 3) (stS_soS_3 0 1 0 m) K
    = K (.exit 2) (sts_soS_3 0 ((seaV sizB 4 0 m 2 1 0 : Nat) : Int) m) := by
  refine Eq.trans (sf_soS_3_0_1_0 N (M + 2) K m) ?_
  unfold seaV
  show _ = K _ (sts_soS_3 0 ((match gtB (sizB (m 4)) (sizB (m 0)) with | true => _ | false => _ : Nat) : Int) m)
  cases gtB (sizB (m 4)) (sizB (m 0))
  · exact se_soS_3_0_2_0 N M K m
  · exact se_soS_3_0_2_1 N M K m
theorem sx_soS_3_0_0 {R : Type} (N M : Nat) (K : X → St → Option R) (m : Nat → Nat) : ktS_soS 5 N (bk_soS 5 N M K) (.exit 2) (sts_soS_3 0 0 m)
    = match eqB (m 0) 0 with | true => K .ret (stR_soS_3 (swapM 4 0 0 m)) | false => lpE_soS 5 N N (stE_soS_3 0 1 (swapM 4 0 0 m)) (ktE_soS 5 N (bk_soS 5 N M K)) := by
  kernel_rfl
theorem sx_soS_3_0_1 {R : Type} (N M : Nat) (K : X → St → Option R) (m : Nat → Nat) : ktS_soS 5 N (bk_soS 5 N M K) (.exit 2) (sts_soS_3 0 1 m)
    = match eqB (m 4) 0 with | true => K .ret (stR_soS_3 (swapM 4 0 1 m)) | false => lpE_soS 5 N N (stE_soS_3 0 1 (swapM 4 0 1 m)) (ktE_soS 5 N (bk_soS 5 N M K)) := by
  kernel_rfl
theorem sx_soS_3_0_2 {R : Type} (N M : Nat) (K : X → St → Option R) (m : Nat → Nat) : ktS_soS 5 N (bk_soS 5 N M K) (.exit 2) (sts_soS_3 0 2 m)
    = match eqB (m 8) 0 with | true => K .ret (stR_soS_3 (swapM 4 0 2 m)) | false => lpE_soS 5 N N (stE_soS_3 0 1 (swapM 4 0 2 m)) (ktE_soS 5 N (bk_soS 5 N M K)) := by
  kernel_rfl
theorem el_soS_3_0 {R : Type} (N M : Nat) (K : X → St → Option R) (m : Nat → Nat) : lpE_soS 5 N (M + 3) (stE_soS_3 0 1 m) K
    = K (.exit 4) (ste_soS_3 0 (elimM 4 0 m)) := by
  kernel_rfl
theorem ex_soS_3_0 {R : Type} (N M : Nat) (K : X → St → Option R) (m : Nat → Nat) : ktE_soS 5 N (bk_soS 5 N M K) (.exit 4) (ste_soS_3 0 m)
    = lpO_soS 5 N M (stO_soS_3 1 m) K := by
  kernel_rfl
theorem head_soS_3_1 {R : Type} (N M : Nat) (K : X → St → Option R) (m : Nat → Nat) : lpO_soS 5 N (M + 1) (stO_soS_3 1 m) K
    = lpS_soS 5 N N (stS_soS_3 1 2 1 m) (ktS_soS 5 N (bk_soS 5 N M K)) := by
  kernel_rfl
theorem se_soS_3_1_3_2 {R : Type} (N M : Nat) (K : X → St → Option R) (m : Nat → Nat) : lpS_soS 5 N (M + 1) (stS_soS_3 1 3 2 m) K
    = K (.exit 2) (sts_soS_3 1 2 m) := by
  kernel_rfl
theorem se_soS_3_1_3_1 {R : Type} (N M : Nat) (K : X → St → Option R) (m : Nat → Nat) : lpS_soS 5 N (M + 1) (stS_soS_3 1 3 1 m) K
    = K (.exit 2) (sts_soS_3 1 1 m) := by
  kernel_rfl
theorem sf_soS_3_1_2_1 {R : Type} (N M : Nat) (K : X → St → Option R) (m : Nat → Nat) : lpS_soS 5 N (M + 1) (stS_soS_3 1 2 1 m) K
    = match gtB (sizB (m 9)) (sizB (m 5)) with | true => lpS_soS 5 N M (stS_soS_3 1 3 2 m) K | false => lpS_soS 5 N M (stS_soS_3 1 3 1 m) K := by
  kernel_rfl
theorem se_soS_3_1_2_1 {R : Type} (N M : Nat) (K : X → St → Option R) (m : Nat → Nat) : lpS_soS 5 N (M + 2) (stS_soS_3 1 2 1 m) K
    = K (.exit 2) (sts_soS_3 1 ((seaV sizB 4 1 m 1 2 1 : Nat) : Int) m) := by
  refine Eq.trans (sf_soS_3_1_2_1 N (M + 1) K m) ?_
  unfold seaV
  show _ = K _ (sts_soS_3 1 ((match gtB (sizB (m 9)) (sizB (m 5)) with | true => _ | false => _ : Nat) : Int) m)
  cases gtB (sizB (m 9)) (sizB (m 5))
  · exact se_soS_3_1_3_1 N M K m
  · exact se_soS_3_1_3_2 N M K m
theorem sx_soS_3_1_1 {R : Type} (N M : Nat) (K : X → St → Option R) (m : Nat → Nat) : ktS_soS 5 N (bk_soS 5 N M K) (.exit 2) (sts_soS_3 1 1 m)
    = match eqB (m 5) 0 with | true => K .ret (stR_soS_3 (swapM 4 1 1 m)) | false => lpE_soS 5 N N (stE_soS_3 1 2 (swapM 4 1 1 m)) (ktE_soS 5 N (bk_soS 5 N M K)) := by
  kernel_rfl
theorem sx_soS_3_1_2 {R : Type} (N M : Nat) (K : X → St → Option R) (m : Nat → Nat) : ktS_soS 5 N (bk_soS 5 N M K) (.exit 2) (sts_soS_3 1 2 m)
    = match eqB (m 9) 0 with | true => K .ret (stR_soS_3 (swapM 4 1 2 m)) | false => lpE_soS 5 N N (stE_soS_3 1 2 (swapM 4 1 2 m)) (ktE_soS 5 N (bk_soS 5 N M K)) := by
  kernel_rfl
theorem el_soS_3_1 {R : Type} (N M : Nat) (K : X → St → Option R) (m : Nat → Nat) : lpE_soS 5 N (M + 2) (stE_soS_3 1 2 m) K
    = K (.exit 4) (ste_soS_3 1 (elimM 4 1 m)) := by
  kernel_rfl
theorem ex_soS_3_1 {R : Type} (N M : Nat) (K : X → St → Option R) (m : Nat → Nat) : ktE_soS 5 N (bk_soS 5 N M K) (.exit 4) (ste_soS_3 1 m)
    = lpO_soS 5 N M (stO_soS_3 2 m) K := by
  kernel_rfl
theorem head_soS_3_2 {R : Type} (N M : Nat) (K : X → St → Option R) (m : Nat → Nat) : lpO_soS 5 N (M + 1) (stO_soS_3 2 m) K
    = lpS_soS 5 N N (stS_soS_3 2 3 2 m) (ktS_soS 5 N (bk_soS 5 N M K)) := by
  kernel_rfl
theorem se_soS_3_2_3_2 {R : Type} (N M : Nat) (K : X → St → Option R) (m : Nat → Nat) : lpS_soS 5 N (M + 1) (stS_soS_3 2 3 2 m) K
    = K (.exit 2) (sts_soS_3 2 2 m) := by
  kernel_rfl
theorem sx_soS_3_2_2 {R : Type} (N M : Nat) (K : X → St → Option R) (m : Nat → Nat) : ktS_soS 5 N (bk_soS 5 N M K) (.exit 2) (sts_soS_3 2 2 m)
    = match eqB (m 10) 0 with | true => K .ret (stR_soS_3 (swapM 4 2 2 m)) | false => lpE_soS 5 N N (stE_soS_3 2 3 (swapM 4 2 2 m)) (ktE_soS 5 N (bk_soS 5 N M K)) := by
  kernel_rfl
theorem el_soS_3_2 {R : Type} (N M : Nat) (K : X → St → Option R) (m : Nat → Nat) : lpE_soS 5 N (M + 1) (stE_soS_3 2 3 m) K
    = K (.exit 4) (ste_soS_3 2 (elimM 4 2 m)) := by
  kernel_rfl
theorem ex_soS_3_2 {R : Type} (N M : Nat) (K : X → St → Option R) (m : Nat → Nat) : ktE_soS 5 N (bk_soS 5 N M K) (.exit 4) (ste_soS_3 2 m)
    = lpO_soS 5 N M (stO_soS_3 3 m) K := by
  kernel_rfl
theorem head_soS_3_3 {R : Type} (N M : Nat) (K : X → St → Option R) (m : Nat → Nat) : lpO_soS 5 N (M + 1) (stO_soS_3 3 m) K
    = K (.exit 0) (stX_soS_3 m) := by
  kernel_rfl
theorem lo_soS_3_3 {R : Type} (M : Nat) (K : X → St → Option R) (Z : Option R) (hZ : ∀ m, K .ret (stR_soS_3 m) = Z) (m : Nat → Nat) : lpO_soS 5 9 (M + 1) (stO_soS_3 3 m) K
    = match sol sizB 4 3 0 3 m with | some m => K (.exit 0) (stX_soS_3 m) | none => Z := by
  exact head_soS_3_3 9 M K m
theorem lo_soS_3_2 {R : Type} (M : Nat) (K : X → St → Option R) (Z : Option R) (hZ : ∀ m, K .ret (stR_soS_3 m) = Z) (m : Nat → Nat) : lpO_soS 5 9 (M + 2) (stO_soS_3 2 m) K
    = match sol sizB 4 3 1 2 m with | some m => K (.exit 0) (stX_soS_3 m) | none => Z := by
  refine Eq.trans (head_soS_3_2 9 (M + 1) K m) ?_
  refine Eq.trans (se_soS_3_2_3_2 9 8 _ m) ?_
  refine Eq.trans (sx_soS_3_2_2 9 (M + 1) K m) ?_
  show _ = match (match eqB (m 10) 0 with | true => none | false => _ : Option (Nat → Nat)) with | some m => _ | none => _
  cases eqB (m 10) 0 with
  | true => exact hZ _
  | false => exact Eq.trans (el_soS_3_2 9 8 _ (swapM 4 2 2 m)) (Eq.trans (ex_soS_3_2 9 (M + 1) K _) (lo_soS_3_3 M K Z hZ _))
theorem lo_soS_3_1 {R : Type} (M : Nat) (K : X → St → Option R) (Z : Option R) (hZ : ∀ m, K .ret (stR_soS_3 m) = Z) (m : Nat → Nat) : lpO_soS 5 9 (M + 3) (stO_soS_3 1 m) K
    = match sol sizB 4 3 2 1 m with | some m => K (.exit 0) (stX_soS_3 m) | none => Z := by
  refine Eq.trans (head_soS_3_1 9 (M + 2) K m) ?_
  refine Eq.trans (se_soS_3_1_2_1 9 7 _ m) ?_
  have hlt : seaV sizB 4 1 m 1 2 1 < 3 := seaV_le _ _ _ rfl (by decide)
  have hge : 1 ≤ seaV sizB 4 1 m 1 2 1 := seaV_ge _ _ _ (by decide) (by decide)
  unfold sol bestM
  generalize hs : seaV sizB 4 1 m 1 2 1 = a at hlt hge ⊢
  have hc : a = 1 ∨ a = 2 := by omega
  rcases hc with rfl | rfl
  · refine Eq.trans (sx_soS_3_1_1 9 (M + 2) K m) ?_
    show _ = match (match eqB (m 5) 0 with | true => none | false => _ : Option (Nat → Nat)) with | some m => _ | none => _
    cases eqB (m 5) 0 with
    | true => exact hZ _
    | false => exact Eq.trans (el_soS_3_1 9 7 _ (swapM 4 1 1 m)) (Eq.trans (ex_soS_3_1 9 (M + 2) K _) (lo_soS_3_2 M K Z hZ _))
  · refine Eq.trans (sx_soS_3_1_2 9 (M + 2) K m) ?_
    show _ = match (match eqB (m 9) 0 with | true => none | false => _ : Option (Nat → Nat)) with | some m => _ | none => _
    cases eqB (m 9) 0 with
    | true => exact hZ _
    | false => exact Eq.trans (el_soS_3_1 9 7 _ (swapM 4 1 2 m)) (Eq.trans (ex_soS_3_1 9 (M + 2) K _) (lo_soS_3_2 M K Z hZ _))
theorem lo_soS_3_0 {R : Type} (M : Nat) (K : X → St → Option R) (Z : Option R) (hZ : ∀ m, K .ret (stR_soS_3 m) = Z) (m : Nat → Nat) : lpO_soS 5 9 (M + 4) (stO_soS_3 0 m) K
    = match sol sizB 4 3 3 0 m with | some m => K (.exit 0) (stX_soS_3 m) | none => Z := by
  refine Eq.trans (head_soS_3_0 9 (M + 3) K m) ?_
  refine Eq.trans (se_soS_3_0_1_0 9 6 _ m) ?_
  have hlt : seaV sizB 4 0 m 2 1 0 < 3 := seaV_le _ _ _ rfl (by decide)
  have hge : 0 ≤ seaV sizB 4 0 m 2 1 0 := seaV_ge _ _ _ (by decide) (by decide)
  unfold sol bestM
  generalize hs : seaV sizB 4 0 m 2 1 0 = a at hlt hge ⊢
  have hc : a = 0 ∨ a = 1 ∨ a = 2 := by omega
  rcases hc with rfl | rfl | rfl
  · refine Eq.trans (sx_soS_3_0_0 9 (M + 3) K m) ?_
    show _ = match (match eqB (m 0) 0 with | true => none | false => _ : Option (Nat → Nat)) with | some m => _ | none => _
    cases eqB (m 0) 0 with
    | true => exact hZ _
    | false => exact Eq.trans (el_soS_3_0 9 6 _ (swapM 4 0 0 m)) (Eq.trans (ex_soS_3_0 9 (M + 3) K _) (lo_soS_3_1 M K Z hZ _))
  · refine Eq.trans (sx_soS_3_0_1 9 (M + 3) K m) ?_
    show _ = match (match eqB (m 4) 0 with | true => none | false => _ : Option (Nat → Nat)) with | some m => _ | none => _
    cases eqB (m 4) 0 with
    | true => exact hZ _
    | false => exact Eq.trans (el_soS_3_0 9 6 _ (swapM 4 0 1 m)) (Eq.trans (ex_soS_3_0 9 (M + 3) K _) (lo_soS_3_1 M K Z hZ _))
  · refine Eq.trans (sx_soS_3_0_2 9 (M + 3) K m) ?_
    show _ = match (match eqB (m 8) 0 with | true => none | false => _ : Option (Nat → Nat)) with | some m => _ | none => _
    cases eqB (m 8) 0 with
    | true => exact hZ _
    | false => exact Eq.trans (el_soS_3_0 9 6 _ (swapM 4 0 2 m)) (Eq.trans (ex_soS_3_0 9 (M + 3) K _) (lo_soS_3_1 M K Z hZ _))
theorem run_soS_3 (N : Nat) (m : Nat → Nat) : runM ty tab_soS an_soS N Try.f12 [.sl 0 0 3, .sl 1 0 3] (hSol 3 m)
    = lpO_soS 5 N N (stO_soS_3 0 m) (ktO_soS 5 N (kEnd Try.f12 5)) := by
  kernel_rfl
theorem end_soS_3 (N : Nat) (m : Nat → Nat) : ktO_soS 5 N (kEnd Try.f12 5) (.exit 0) (stX_soS_3 m)
    = some (.tup [.a (.sl 5 0 3), .a (.bool true)], [.gone, .gone, .gone, .gone, .gone, .at true (.fl .f32 (bkL 4 3 m 3))]) := by
  kernel_rfl
theorem endr_soS_3 (N : Nat) (m : Nat → Nat) : ktO_soS 5 N (kEnd Try.f12 5) .ret (stR_soS_3 m)
    = some (.tup [.a (.nil), .a (.bool false)], [.gone, .gone, .gone, .gone, .gone]) := by
  kernel_rfl
theorem so_3 (m : Nat → Nat) : runM ty tab_soS an_soS 9 Try.f12 [.sl 0 0 3, .sl 1 0 3] (hSol 3 m) = (solT 3 m).run := by
  refine Eq.trans (run_soS_3 9 m) ?_
  refine Eq.trans (lo_soS_3_0 5 (ktO_soS 5 9 (kEnd Try.f12 5)) _ (fun m => endr_soS_3 9 m) m) ?_
  unfold solT solL solM solOk
  cases sol sizB 4 3 3 0 m with
  | none => rfl
  | some m' => exact end_soS_3 9 m'
theorem ok_soS_3 : FnT Try.prog 12 (gSol 3) := by
  refine fnM tabok_soS Try.func12 rfl rfl an_soS fun vs h v h' e => ?_
  unfold gSol at e
  split at e
  case h_2 => exact (T.no_inv e).elim
  rename_i m hm
  obtain ⟨rfl, rfl⟩ := readS_inv hm
  exact ⟨hSol_rw 3 m, 9, (so_3 m).trans e⟩
end Go.Proofs.Ytppdnhjcnjfppaa.Ab
