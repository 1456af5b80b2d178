/- What the proof names: lemmas and words, merged by a program from its parts. No condition. -/
import Derived.Test.YtppdnhjcnjfppaaZ9
namespace Go.Proofs.Ytppdnhjcnjfppaa.Ab
set_option linter.unusedVariables false
set_option linter.unusedSimpArgs false
open Go
def stO_soS_4 (k : Int) (m : Nat → Nat) : St := ⟨(.sl 6 0 4 :: .sl 7 0 4 :: .any :: .any :: .any :: .any :: .int .i64 4 :: .int .i64 k :: (anys 194 [])), [.gone, .gone, .gone, .gone, .gone, .gone, .at true (.as 1 [.sl 8 0 4, .sl 9 0 4, .sl 10 0 4, .sl 11 0 4]), .at true (.fl .f32 [m 4, m 9, m 14, m 19]), .at true (.fl .f32 [m 0, m 1, m 2, m 3]), .at true (.fl .f32 [m 5, m 6, m 7, m 8]), .at true (.fl .f32 [m 10, m 11, m 12, m 13]), .at true (.fl .f32 [m 15, m 16, m 17, m 18])]⟩
def stS_soS_4 (k : Int) (i : Int) (a : Int) (m : Nat → Nat) : St := ⟨(.sl 6 0 4 :: .sl 7 0 4 :: .any :: .any :: .any :: .any :: .int .i64 4 :: .int .i64 k :: .int .i64 a :: .int .i64 i :: (anys 192 [])), [.gone, .gone, .gone, .gone, .gone, .gone, .at true (.as 1 [.sl 8 0 4, .sl 9 0 4, .sl 10 0 4, .sl 11 0 4]), .at true (.fl .f32 [m 4, m 9, m 14, m 19]), .at true (.fl .f32 [m 0, m 1, m 2, m 3]), .at true (.fl .f32 [m 5, m 6, m 7, m 8]), .at true (.fl .f32 [m 10, m 11, m 12, m 13]), .at true (.fl .f32 [m 15, m 16, m 17, m 18])]⟩
def sts_soS_4 (k : Int) (a : Int) (m : Nat → Nat) : St := ⟨(.sl 6 0 4 :: .sl 7 0 4 :: .any :: .any :: .any :: .any :: .int .i64 4 :: .int .i64 k :: .int .i64 a :: (anys 193 [])), [.gone, .gone, .gone, .gone, .gone, .gone, .at true (.as 1 [.sl 8 0 4, .sl 9 0 4, .sl 10 0 4, .sl 11 0 4]), .at true (.fl .f32 [m 4, m 9, m 14, m 19]), .at true (.fl .f32 [m 0, m 1, m 2, m 3]), .at true (.fl .f32 [m 5, m 6, m 7, m 8]), .at true (.fl .f32 [m 10, m 11, m 12, m 13]), .at true (.fl .f32 [m 15, m 16, m 17, m 18])]⟩
def stE_soS_4 (k : Int) (i : Int) (m : Nat → Nat) : St := ⟨(.sl 6 0 4 :: .sl 7 0 4 :: .any :: .any :: .any :: .any :: .int .i64 4 :: .int .i64 k :: .any :: .any :: .any :: .any :: .int .i64 i :: (anys 189 [])), [.gone, .gone, .gone, .gone, .gone, .gone, .at true (.as 1 [.sl 8 0 4, .sl 9 0 4, .sl 10 0 4, .sl 11 0 4]), .at true (.fl .f32 [m 4, m 9, m 14, m 19]), .at true (.fl .f32 [m 0, m 1, m 2, m 3]), .at true (.fl .f32 [m 5, m 6, m 7, m 8]), .at true (.fl .f32 [m 10, m 11, m 12, m 13]), .at true (.fl .f32 [m 15, m 16, m 17, m 18])]⟩
def ste_soS_4 (k : Int) (m : Nat → Nat) : St := ⟨(.sl 6 0 4 :: .sl 7 0 4 :: .any :: .any :: .any :: .any :: .int .i64 4 :: .int .i64 k :: (anys 194 [])), [.gone, .gone, .gone, .gone, .gone, .gone, .at true (.as 1 [.sl 8 0 4, .sl 9 0 4, .sl 10 0 4, .sl 11 0 4]), .at true (.fl .f32 [m 4, m 9, m 14, m 19]), .at true (.fl .f32 [m 0, m 1, m 2, m 3]), .at true (.fl .f32 [m 5, m 6, m 7, m 8]), .at true (.fl .f32 [m 10, m 11, m 12, m 13]), .at true (.fl .f32 [m 15, m 16, m 17, m 18])]⟩
def stX_soS_4 (m : Nat → Nat) : St := ⟨(.sl 6 0 4 :: .sl 7 0 4 :: .any :: .any :: .any :: .any :: .int .i64 4 :: (anys 195 [])), [.gone, .gone, .gone, .gone, .gone, .gone, .at true (.as 1 [.sl 8 0 4, .sl 9 0 4, .sl 10 0 4, .sl 11 0 4]), .at true (.fl .f32 [m 4, m 9, m 14, m 19]), .at true (.fl .f32 [m 0, m 1, m 2, m 3]), .at true (.fl .f32 [m 5, m 6, m 7, m 8]), .at true (.fl .f32 [m 10, m 11, m 12, m 13]), .at true (.fl .f32 [m 15, m 16, m 17, m 18])]⟩
def stR_soS_4 (m : Nat → Nat) : St := ⟨(.sl 6 0 4 :: .sl 7 0 4 :: .any :: .any :: .nil :: .bool false :: .int .i64 4 :: (anys 195 [])), [.gone, .gone, .gone, .gone, .gone, .gone, .at true (.as 1 [.sl 8 0 4, .sl 9 0 4, .sl 10 0 4, .sl 11 0 4]), .at true (.fl .f32 [m 4, m 9, m 14, m 19]), .at true (.fl .f32 [m 0, m 1, m 2, m 3]), .at true (.fl .f32 [m 5, m 6, m 7, m 8]), .at true (.fl .f32 [m 10, m 11, m 12, m 13]), .at true (.fl .f32 [m 15, m 16, m 17, m 18])]⟩
theorem head_soS_4_0 {R : Type} (N M : Nat) (K : X → St → Option R) (m : Nat → Nat) : lpO_soS 6 N (M + 1) (stO_soS_4 0 m) K
    = lpS_soS 6 N N (stS_soS_4 0 1 0 m) (ktS_soS 6 N (bk_soS 6 N M K)) := by
  kernel_rfl
theorem se_soS_4_0_4_3 {R : Type} (N M : Nat) (K : X → St → Option R) (m : Nat → Nat) : lpS_soS 6 N (M + 1) (stS_soS_4 0 4 3 m) K
    = K (.exit 2) (sts_soS_4 0 3 m) := by
  kernel_rfl
theorem se_soS_4_0_4_2 {R : Type} (N M : Nat) (K : X → St → Option R) (m : Nat → Nat) : lpS_soS 6 N (M + 1) (stS_soS_4 0 4 2 m) K
    = K (.exit 2) (sts_soS_4 0 2 m) := by
  kernel_rfl
theorem se_soS_4_0_4_1 {R : Type} (N M : Nat) (K : X → St → Option R) (m : Nat → Nat) : lpS_soS 6 N (M + 1) (stS_soS_4 0 4 1 m) K
    = K (.exit 2) (sts_soS_4 0 1 m) := by
  kernel_rfl
theorem se_soS_4_0_4_0 {R : Type} (N M : Nat) (K : X → St → Option R) (m : Nat → Nat) : lpS_soS 6 N (M + 1) (stS_soS_4 0 4 0 m) K
    = K (.exit 2) (sts_soS_4 0 0 m) := by
  kernel_rfl
theorem sf_soS_4_0_3_2 {R : Type} (N M : Nat) (K : X → St → Option R) (m : Nat → Nat) : lpS_soS 6 N (M + 1) (stS_soS_4 0 3 2 m) K
    = match gtB (sizB (m 15)) (sizB (m 10)) with | true => lpS_soS 6 N M (stS_soS_4 0 4 3 m) K | false => lpS_soS 6 N M (stS_soS_4 0 4 2 m) K := by
  kernel_rfl
theorem se_soS_4_0_3_2 {R : Type} (N M : Nat) (K : X → St → Option R) (m : Nat → Nat) : lpS_soS 6 N (M + 2) (stS_soS_4 0 3 2 m) K
    = K (.exit 2) (sts_soS_4 0 ((seaV sizB 5 0 m 1 3 2 : Nat) : Int) m) := by
  refine Eq.trans (sf_soS_4_0_3_2 N (M + 1) K m) ?_
  unfold seaV
  show _ = K _ (sts_soS_4 0 ((match gtB (sizB (m 15)) (sizB (m 10)) with | true => _ | false => _ : Nat) : Int) m)
  cases gtB (sizB (m 15)) (sizB (m 10))
  · exact se_soS_4_0_4_2 N M K m
  · exact se_soS_4_0_4_3 N M K m
theorem sf_soS_4_0_3_1 {R : Type} (N M : Nat) (K : X → St → Option R) (m : Nat → Nat) : lpS_soS 6 N (M + 1) (stS_soS_4 0 3 1 m) K
    = match gtB (sizB (m 15)) (sizB (m 5)) with | true => lpS_soS 6 N M (stS_soS_4 0 4 3 m) K | false => lpS_soS 6 N M (stS_soS_4 0 4 1 m) K := by
  kernel_rfl
theorem se_soS_4_0_3_1 {R : Type} (N M : Nat) (K : X → St → Option R) (m : Nat → Nat) : lpS_soS 6 N (M + 2) (stS_soS_4 0 3 1 m) K
    = K (.exit 2) (sts_soS_4 0 ((seaV sizB 5 0 m 1 3 1 : Nat) : Int) m) := by
  refine Eq.trans (sf_soS_4_0_3_1 N (M + 1) K m) ?_
  unfold seaV
  show _ = K _ (sts_soS_4 0 ((match gtB (sizB (m 15)) (sizB (m 5)) with | true => _ | false => _ : Nat) : Int) m)
  cases gtB (sizB (m 15)) (sizB (m 5))
  · exact se_soS_4_0_4_1 N M K m
  · exact se_soS_4_0_4_3 N M K m
theorem sf_soS_4_0_3_0 {R : Type} (N M : Nat) (K : X → St → Option R) (m : Nat → Nat) : lpS_soS 6 N (M + 1) (stS_soS_4 0 3 0 m) K
    = match gtB (sizB (m 15)) (sizB (m 0)) with | true => lpS_soS 6 N M (stS_soS_4 0 4 3 m) K | false => lpS_soS 6 N M (stS_soS_4 0 4 0 m) K := by
  kernel_rfl
theorem se_soS_4_0_3_0 {R : Type} (N M : Nat) (K : X → St → Option R) (m : Nat → Nat) : lpS_soS 6 N (M + 2) (stS_soS_4 0 3 0 m) K
    = K (.exit 2) (sts_soS_4 0 ((seaV sizB 5 0 m 1 3 0 : Nat) : Int) m) := by
  refine Eq.trans (sf_soS_4_0_3_0 N (M + 1) K m) ?_
  unfold seaV
  show _ = K _ (sts_soS_4 0 ((match gtB (sizB (m 15)) (sizB (m 0)) with | true => _ | false => _ : Nat) : Int) m)
  cases gtB (sizB (m 15)) (sizB (m 0))
  · exact se_soS_4_0_4_0 N M K m
  · exact se_soS_4_0_4_3 N M K m
theorem sf_soS_4_0_2_1 {R : Type} (N M : Nat) (K : X → St → Option R) (m : Nat → Nat) : lpS_soS 6 N (M + 1) (stS_soS_4 0 2 1 m) K
    = match gtB (sizB (m 10)) (sizB (m 5)) with | true => lpS_soS 6 N M (stS_soS_4 0 3 2 m) K | false => lpS_soS 6 N M (stS_soS_4 0 3 1 m) K := by
  kernel_rfl
theorem se_soS_4_0_2_1 {R : Type} (N M : Nat) (K : X → St → Option R) (m : Nat → Nat) : lpS_soS 6 N (M + 3) (stS_soS_4 0 2 1 m) K
    = K (.exit 2) (sts_soS_4 0 ((seaV sizB 5 0 m 2 2 1 : Nat) : Int) m) := by
  refine Eq.trans (sf_soS_4_0_2_1 N (M + 2) K m) ?_
  unfold seaV
  show _ = K _ (sts_soS_4 0 ((match gtB (sizB (m 10)) (sizB (m 5)) with | true => _ | false => _ : Nat) : Int) m)
  cases gtB (sizB (m 10)) (sizB (m 5))
  · exact se_soS_4_0_3_1 N M K m
  · exact se_soS_4_0_3_2 N M K m
theorem sf_soS_4_0_2_0 {R : Type} (N M : Nat) (K : X → St → Option R) (m : Nat → Nat) : lpS_soS 6 N (M + 1) (stS_soS_4 0 2 0 m) K
    = match gtB (sizB (m 10)) (sizB (m 0)) with | true => lpS_soS 6 N M (stS_soS_4 0 3 2 m) K | false => lpS_soS 6 N M (stS_soS_4 0 3 0 m) K := by
  kernel_rfl
theorem se_soS_4_0_2_0 {R : Type} (N M : Nat) (K : X → St → Option R) (m : Nat → Nat) : lpS_soS 6 N (M + 3) (stS_soS_4 0 2 0 m) K
    = K (.exit 2) (sts_soS_4 0 ((seaV sizB 5 0 m 2 2 0 : Nat) : Int) m) := by
  refine Eq.trans (sf_soS_4_0_2_0 N (M + 2) K m) ?_
  unfold seaV
  show _ = K _ (sts_soS_4 0 ((match gtB (sizB (m 10)) (sizB (m 0)) with | true => _ | false => _ : Nat) : Int) m)
  cases gtB (sizB (m 10)) (sizB (m 0))
  · exact se_soS_4_0_3_0 N M K m
  · exact se_soS_4_0_3_2 N M K m
theorem sf_soS_4_0_1_0 {R : Type} (N M : Nat) (K : X → St → Option R) (m : Nat → Nat) : lpS_soS 6 N (M + 1) (stS_soS_4 0 1 0 m) K
    = match gtB (sizB (m 5)) (sizB (m 0)) with | true => lpS_soS 6 N M (stS_soS_4 0 2 1 m) K | false => lpS_soS 6 N M (stS_soS_4 0 2 0 m) K := by
  kernel_rfl
theorem se_soS_4_0_1_0 {R : Type} (N M : Nat) (K : X → St → Option R) (m : Nat → Nat) : lpS_soS 6 N (M + 4) (stS_soS_4 0 1 0 m) K
    = K (.exit 2) (sts_soS_4 0 ((seaV sizB 5 0 m 3 1 0 : Nat) : Int) m) := by
  refine Eq.trans (sf_soS_4_0_1_0 N (M + 3) K m) ?_
  unfold seaV
  show _ = K _ (sts_soS_4 0 ((match gtB (sizB (m 5)) (sizB (m 0)) with | true => _ | false => _ : Nat) : Int) m)
  cases gtB (sizB (m 5)) (sizB (m 0))
  · exact se_soS_4_0_2_0 N M K m
  · exact se_soS_4_0_2_1 N M K m
theorem sx_soS_4_0_0 {R : Type} (N M : Nat) (K : X → St → Option R) (m : Nat → Nat) : ktS_soS 6 N (bk_soS 6 N M K) (.exit 2) (sts_soS_4 0 0 m)
    = match eqB (m 0) 0 with | true => K .ret (stR_soS_4 (swapM 5 0 0 m)) | false => lpE_soS 6 N N (stE_soS_4 0 1 (swapM 5 0 0 m)) (ktE_soS 6 N (bk_soS 6 N M K)) := by
  kernel_rfl
theorem sx_soS_4_0_1 {R : Type} (N M : Nat) (K : X → St → Option R) (m : Nat → Nat) : ktS_soS 6 N (bk_soS 6 N M K) (.exit 2) (sts_soS_4 0 1 m)
    = match eqB (m 5) 0 with | true => K .ret (stR_soS_4 (swapM 5 0 1 m)) | false => lpE_soS 6 N N (stE_soS_4 0 1 (swapM 5 0 1 m)) (ktE_soS 6 N (bk_soS 6 N M K)) := by
  kernel_rfl
theorem sx_soS_4_0_2 {R : Type} (N M : Nat) (K : X → St → Option R) (m : Nat → Nat) : ktS_soS 6 N (bk_soS 6 N M K) (.exit 2) (sts_soS_4 0 2 m)
    = match eqB (m 10) 0 with | true => K .ret (stR_soS_4 (swapM 5 0 2 m)) | false => lpE_soS 6 N N (stE_soS_4 0 1 (swapM 5 0 2 m)) (ktE_soS 6 N (bk_soS 6 N M K)) := by
  kernel_rfl
theorem sx_soS_4_0_3 {R : Type} (N M : Nat) (K : X → St → Option R) (m : Nat → Nat) : ktS_soS 6 N (bk_soS 6 N M K) (.exit 2) (sts_soS_4 0 3 m)
    = match eqB (m 15) 0 with | true => K .ret (stR_soS_4 (swapM 5 0 3 m)) | false => lpE_soS 6 N N (stE_soS_4 0 1 (swapM 5 0 3 m)) (ktE_soS 6 N (bk_soS 6 N M K)) := by
  kernel_rfl
theorem el_soS_4_0 {R : Type} (N M : Nat) (K : X → St → Option R) (m : Nat → Nat) : lpE_soS 6 N (M + 4) (stE_soS_4 0 1 m) K
    = K (.exit 4) (ste_soS_4 0 (elimM 5 0 m)) := by
  kernel_rfl
theorem ex_soS_4_0 {R : Type} (N M : Nat) (K : X → St → Option R) (m : Nat → Nat) : ktE_soS 6 N (bk_soS 6 N M K) (.exit 4) (ste_soS_4 0 m)
    = lpO_soS 6 N M (stO_soS_4 1 m) K := by
  kernel_rfl
theorem head_soS_4_1 {R : Type} (N M : Nat) (K : X → St → Option R) (m : Nat → Nat) : lpO_soS 6 N (M + 1) (stO_soS_4 1 m) K
    = lpS_soS 6 N N (stS_soS_4 1 2 1 m) (ktS_soS 6 N (bk_soS 6 N M K)) := by
  kernel_rfl
theorem se_soS_4_1_4_3 {R : Type} (N M : Nat) (K : X → St → Option R) (m : Nat → Nat) : lpS_soS 6 N (M + 1) (stS_soS_4 1 4 3 m) K
    = K (.exit 2) (sts_soS_4 1 3 m) := by
  kernel_rfl
theorem se_soS_4_1_4_2 {R : Type} (N M : Nat) (K : X → St → Option R) (m : Nat → Nat) : lpS_soS 6 N (M + 1) (stS_soS_4 1 4 2 m) K
    = K (.exit 2) (sts_soS_4 1 2 m) := by
  kernel_rfl
theorem se_soS_4_1_4_1 {R : Type} (N M : Nat) (K : X → St → Option R) (m : Nat → Nat) : lpS_soS 6 N (M + 1) (stS_soS_4 1 4 1 m) K
    = K (.exit 2) (sts_soS_4 1 1 m) := by
  kernel_rfl
theorem sf_soS_4_1_3_2 {R : Type} (N M : Nat) (K : X → St → Option R) (m : Nat → Nat) : lpS_soS 6 N (M + 1) (stS_soS_4 1 3 2 m) K
    = match gtB (sizB (m 16)) (sizB (m 11)) with | true => lpS_soS 6 N M (stS_soS_4 1 4 3 m) K | false => lpS_soS 6 N M (stS_soS_4 1 4 2 m) K := by
  kernel_rfl
theorem se_soS_4_1_3_2 {R : Type} (N M : Nat) (K : X → St → Option R) (m : Nat → Nat) : lpS_soS 6 N (M + 2) (stS_soS_4 1 3 2 m) K
    = K (.exit 2) (sts_soS_4 1 ((seaV sizB 5 1 m 1 3 2 : Nat) : Int) m) := by
  refine Eq.trans (sf_soS_4_1_3_2 N (M + 1) K m) ?_
  unfold seaV
  show _ = K _ (sts_soS_4 1 ((match gtB (sizB (m 16)) (sizB (m 11)) with | true => _ | false => _ : Nat) : Int) m)
  cases gtB (sizB (m 16)) (sizB (m 11))
  · exact se_soS_4_1_4_2 N M K m
  · exact se_soS_4_1_4_3 N M K m
theorem sf_soS_4_1_3_1 {R : Type} (N M : Nat) (K : X → St → Option R) (m : Nat → Nat) : lpS_soS 6 N (M + 1) (stS_soS_4 1 3 1 m) K
    = match gtB (sizB (m 16)) (sizB (m 6)) with | true => lpS_soS 6 N M (stS_soS_4 1 4 3 m) K | false => lpS_soS 6 N M (stS_soS_4 1 4 1 m) K := by
  kernel_rfl
theorem se_soS_4_1_3_1 {R : Type} (N M : Nat) (K : X → St → Option R) (m : Nat → Nat) : lpS_soS 6 N (M + 2) (stS_soS_4 1 3 1 m) K
    = K (.exit 2) (sts_soS_4 1 ((seaV sizB 5 1 m 1 3 1 : Nat) : Int) m) := by
  refine Eq.trans (sf_soS_4_1_3_1 N (M + 1) K m) ?_
  unfold seaV
  show _ = K _ (sts_soS_4 1 ((match gtB (sizB (m 16)) (sizB (m 6)) with | true => _ | false => _ : Nat) : Int) m)
  cases gtB (sizB (m 16)) (sizB (m 6))
  · exact se_soS_4_1_4_1 N M K m
  · exact se_soS_4_1_4_3 N M K m
theorem sf_soS_4_1_2_1 {R : Type} (N M : Nat) (K : X → St → Option R) (m : Nat → Nat) : lpS_soS 6 N (M + 1) (stS_soS_4 1 2 1 m) K
    = match gtB (sizB (m 11)) (sizB (m 6)) with | true => lpS_soS 6 N M (stS_soS_4 1 3 2 m) K | false => lpS_soS 6 N M (stS_soS_4 1 3 1 m) K := by
  kernel_rfl
theorem se_soS_4_1_2_1 {R : Type} (N M : Nat) (K : X → St → Option R) (m : Nat → Nat) : lpS_soS 6 N (M + 3) (stS_soS_4 1 2 1 m) K
    = K (.exit 2) (sts_soS_4 1 ((seaV sizB 5 1 m 2 2 1 : Nat) : Int) m) := by
  refine Eq.trans (sf_soS_4_1_2_1 N (M + 2) K m) ?_
  unfold seaV
  show _ = K _ (sts_soS_4 1 ((match gtB (sizB (m 11)) (sizB (m 6)) with | true => _ | false => _ : Nat) : Int) m)
  cases gtB (sizB (m 11)) (sizB (m 6))
  · exact se_soS_4_1_3_1 N M K m
  · exact se_soS_4_1_3_2 N M K m
theorem sx_soS_4_1_1 {R : Type} (N M : Nat) (K : X → St → Option R) (m : Nat → Nat) : ktS_soS 6 N (bk_soS 6 N M K) (.exit 2) (sts_soS_4 1 1 m)
    = match eqB (m 6) 0 with | true => K .ret (stR_soS_4 (swapM 5 1 1 m)) | false => lpE_soS 6 N N (stE_soS_4 1 2 (swapM 5 1 1 m)) (ktE_soS 6 N (bk_soS 6 N M K)) := by
  kernel_rfl
theorem sx_soS_4_1_2 {R : Type} (N M : Nat) (K : X → St → Option R) (m : Nat → Nat) : ktS_soS 6 N (bk_soS 6 N M K) (.exit 2) (sts_soS_4 1 2 m)
    = match eqB (m 11) 0 with | true => K .ret (stR_soS_4 (swapM 5 1 2 m)) | false => lpE_soS 6 N N (stE_soS_4 1 2 (swapM 5 1 2 m)) (ktE_soS 6 N (bk_soS 6 N M K)) := by
  kernel_rfl
theorem sx_soS_4_1_3 {R : Type} (N M : Nat) (K : X → St → Option R) (m : Nat → Nat) : ktS_soS 6 N (bk_soS 6 N M K) (.exit 2) (sts_soS_4 1 3 m)
    = match eqB (m 16) 0 with | true => K .ret (stR_soS_4 (swapM 5 1 3 m)) | false => lpE_soS 6 N N (stE_soS_4 1 2 (swapM 5 1 3 m)) (ktE_soS 6 N (bk_soS 6 N M K)) := by
  kernel_rfl
theorem el_soS_4_1 {R : Type} (N M : Nat) (K : X → St → Option R) (m : Nat → Nat) : lpE_soS 6 N (M + 3) (stE_soS_4 1 2 m) K
    = K (.exit 4) (ste_soS_4 1 (elimM 5 1 m)) := by
  kernel_rfl
theorem ex_soS_4_1 {R : Type} (N M : Nat) (K : X → St → Option R) (m : Nat → Nat) : ktE_soS 6 N (bk_soS 6 N M K) (.exit 4) (ste_soS_4 1 m)
    = lpO_soS 6 N M (stO_soS_4 2 m) K := by
  kernel_rfl
theorem head_soS_4_2 {R : Type} (N M : Nat) (K : X → St → Option R) (m : Nat → Nat) : lpO_soS 6 N (M + 1) (stO_soS_4 2 m) K
    = lpS_soS 6 N N (stS_soS_4 2 3 2 m) (ktS_soS 6 N (bk_soS 6 N M K)) := by
  kernel_rfl
theorem se_soS_4_2_4_3 {R : Type} (N M : Nat) (K : X → St → Option R) (m : Nat → Nat) : lpS_soS 6 N (M + 1) (stS_soS_4 2 4 3 m) K
    = K (.exit 2) (sts_soS_4 2 3 m) := by
  kernel_rfl
theorem se_soS_4_2_4_2 {R : Type} (N M : Nat) (K : X → St → Option R) (m : Nat → Nat) : lpS_soS 6 N (M + 1) (stS_soS_4 2 4 2 m) K
    = K (.exit 2) (sts_soS_4 2 2 m) := by
  kernel_rfl
theorem sf_soS_4_2_3_2 {R : Type} (N M : Nat) (K : X → St → Option R) (m : Nat → Nat) : lpS_soS 6 N (M + 1) (stS_soS_4 2 3 2 m) K
    = match gtB (sizB (m 17)) (sizB (m 12)) with | true => lpS_soS 6 N M (stS_soS_4 2 4 3 m) K | false => lpS_soS 6 N M (stS_soS_4 2 4 2 m) K := by
  kernel_rfl
theorem se_soS_4_2_3_2 {R : Type} (N M : Nat) (K : X → St → Option R) (m : Nat → Nat) : lpS_soS 6 N (M + 2) (stS_soS_4 2 3 2 m) K
    = K (.exit 2) (sts_soS_4 2 ((seaV sizB 5 2 m 1 3 2 : Nat) : Int) m) := by
  refine Eq.trans (sf_soS_4_2_3_2 N (M + 1) K m) ?_
  unfold seaV
  show _ = K _ (sts_soS_4 2 ((match gtB (sizB (m 17)) (sizB (m 12)) with | true => _ | false => _ : Nat) : Int) m)
  cases gtB (sizB (m 17)) (sizB (m 12))
  · exact se_soS_4_2_4_2 N M K m
  · exact se_soS_4_2_4_3 N M K m
theorem sx_soS_4_2_2 {R : Type} (N M : Nat) (K : X → St → Option R) (m : Nat → Nat) : ktS_soS 6 N (bk_soS 6 N M K) (.exit 2) (sts_soS_4 2 2 m)
    = match eqB (m 12) 0 with | true => K .ret (stR_soS_4 (swapM 5 2 2 m)) | false => lpE_soS 6 N N (stE_soS_4 2 3 (swapM 5 2 2 m)) (ktE_soS 6 N (bk_soS 6 N M K)) := by
  kernel_rfl
theorem sx_soS_4_2_3 {R : Type} (N M : Nat) (K : X → St → Option R) (m : Nat → Nat) : ktS_soS 6 N (bk_soS 6 N M K) (.exit 2) (sts_soS_4 2 3 m)
    = match eqB (m 17) 0 with | true => K .ret (stR_soS_4 (swapM 5 2 3 m)) | false => lpE_soS 6 N N (stE_soS_4 2 3 (swapM 5 2 3 m)) (ktE_soS 6 N (bk_soS 6 N M K)) := by
  kernel_rfl
theorem el_soS_4_2 {R : Type} (N M : Nat) (K : X → St → Option R) (m : Nat → Nat) : lpE_soS 6 N (M + 2) (stE_soS_4 2 3 m) K
    = K (.exit 4) (ste_soS_4 2 (elimM 5 2 m)) := by
  kernel_rfl
theorem ex_soS_4_2 {R : Type} (N M : Nat) (K : X → St → Option R) (m : Nat → Nat) : ktE_soS 6 N (bk_soS 6 N M K) (.exit 4) (ste_soS_4 2 m)
    = lpO_soS 6 N M (stO_soS_4 3 m) K := by
  kernel_rfl
theorem head_soS_4_3 {R : Type} (N M : Nat) (K : X → St → Option R) (m : Nat → Nat) : lpO_soS 6 N (M + 1) (stO_soS_4 3 m) K
    = lpS_soS 6 N N (stS_soS_4 3 4 3 m) (ktS_soS 6 N (bk_soS 6 N M K)) := by
  kernel_rfl
theorem se_soS_4_3_4_3 {R : Type} (N M : Nat) (K : X → St → Option R) (m : Nat → Nat) : lpS_soS 6 N (M + 1) (stS_soS_4 3 4 3 m) K
    = K (.exit 2) (sts_soS_4 3 3 m) := by
  kernel_rfl
theorem sx_soS_4_3_3 {R : Type} (N M : Nat) (K : X → St → Option R) (m : Nat → Nat) : ktS_soS 6 N (bk_soS 6 N M K) (.exit 2) (sts_soS_4 3 3 m)
    = match eqB (m 18) 0 with | true => K .ret (stR_soS_4 (swapM 5 3 3 m)) | false => lpE_soS 6 N N (stE_soS_4 3 4 (swapM 5 3 3 m)) (ktE_soS 6 N (bk_soS 6 N M K)) := by
  kernel_rfl
theorem el_soS_4_3 {R : Type} (N M : Nat) (K : X → St → Option R) (m : Nat → Nat) : lpE_soS 6 N (M + 1) (stE_soS_4 3 4 m) K
    = K (.exit 4) (ste_soS_4 3 (elimM 5 3 m)) := by
  kernel_rfl
theorem ex_soS_4_3 {R : Type} (N M : Nat) (K : X → St → Option R) (m : Nat → Nat) : ktE_soS 6 N (bk_soS 6 N M K) (.exit 4) (ste_soS_4 3 m)
    = lpO_soS 6 N M (stO_soS_4 4 m) K := by
  kernel_rfl
theorem head_soS_4_4 {R : Type} (N M : Nat) (K : X → St → Option R) (m : Nat → Nat) : lpO_soS 6 N (M + 1) (stO_soS_4 4 m) K
    = K (.exit 0) (stX_soS_4 m) := by
  kernel_rfl
theorem lo_soS_4_4 {R : Type} (M : Nat) (K : X → St → Option R) (Z : Option R) (hZ : ∀ m, K .ret (stR_soS_4 m) = Z) (m : Nat → Nat) : lpO_soS 6 9 (M + 1) (stO_soS_4 4 m) K
    = match sol sizB 5 4 0 4 m with | some m => K (.exit 0) (stX_soS_4 m) | none => Z := by
  exact head_soS_4_4 9 M K m
theorem lo_soS_4_3 {R : Type} (M : Nat) (K : X → St → Option R) (Z : Option R) (hZ : ∀ m, K .ret (stR_soS_4 m) = Z) (m : Nat → Nat) : lpO_soS 6 9 (M + 2) (stO_soS_4 3 m) K
    = match sol sizB 5 4 1 3 m with | some m => K (.exit 0) (stX_soS_4 m) | none => Z := by
  refine Eq.trans (head_soS_4_3 9 (M + 1) K m) ?_
  refine Eq.trans (se_soS_4_3_4_3 9 8 _ m) ?_
  refine Eq.trans (sx_soS_4_3_3 9 (M + 1) K m) ?_
  show _ = match (match eqB (m 18) 0 with | true => none | false => _ : Option (Nat → Nat)) with | some m => _ | none => _
  cases eqB (m 18) 0 with
  | true => exact hZ _
  | false => exact Eq.trans (el_soS_4_3 9 8 _ (swapM 5 3 3 m)) (Eq.trans (ex_soS_4_3 9 (M + 1) K _) (lo_soS_4_4 M K Z hZ _))
theorem lo_soS_4_2 {R : Type} (M : Nat) (K : X → St → Option R) (Z : Option R) (hZ : ∀ m, K .ret (stR_soS_4 m) = Z) (m : Nat → Nat) : lpO_soS 6 9 (M + 3) (stO_soS_4 2 m) K
    = match sol sizB 5 4 2 2 m with | some m => K (.exit 0) (stX_soS_4 m) | none => Z := by
  refine Eq.trans (head_soS_4_2 9 (M + 2) K m) ?_
  refine Eq.trans (se_soS_4_2_3_2 9 7 _ m) ?_
  have hlt : seaV sizB 5 2 m 1 3 2 < 4 := seaV_le _ _ _ rfl (by decide)
  have hge : 2 ≤ seaV sizB 5 2 m 1 3 2 := seaV_ge _ _ _ (by decide) (by decide)
  unfold sol bestM
  generalize hs : seaV sizB 5 2 m 1 3 2 = a at hlt hge ⊢
  have hc : a = 2 ∨ a = 3 := by omega
  rcases hc with rfl | rfl
  · refine Eq.trans (sx_soS_4_2_2 9 (M + 2) K m) ?_
    show _ = match (match eqB (m 12) 0 with | true => none | false => _ : Option (Nat → Nat)) with | some m => _ | none => _
    cases eqB (m 12) 0 with
    | true => exact hZ _
    | false => exact Eq.trans (el_soS_4_2 9 7 _ (swapM 5 2 2 m)) (Eq.trans (ex_soS_4_2 9 (M + 2) K _) (lo_soS_4_3 M K Z hZ _))
  · refine Eq.trans (sx_soS_4_2_3 9 (M + 2) K m) ?_
    show _ = match (match eqB (m 17) 0 with | true => none | false => _ : Option (Nat → Nat)) with | some m => _ | none => _
    cases eqB (m 17) 0 with
    | true => exact hZ _
    | false => exact Eq.trans (el_soS_4_2 9 7 _ (swapM 5 2 3 m)) (Eq.trans (ex_soS_4_2 9 (M + 2) K _) (lo_soS_4_3 M K Z hZ _))
theorem lo_soS_4_1 {R : Type} (M : Nat) (K : X → St → Option R) (Z : Option R) (hZ : ∀ m, K .ret (stR_soS_4 m) = Z) (m : Nat → Nat) : lpO_soS 6 9 (M + 4) (stO_soS_4 1 m) K
    = match sol sizB 5 4 3 1 m with | some m => K (.exit 0) (stX_soS_4 m) | none => Z := by
  refine Eq.trans (head_soS_4_1 9 (M + 3) K m) ?_
  refine Eq.trans (se_soS_4_1_2_1 9 6 _ m) ?_
  have hlt : seaV sizB 5 1 m 2 2 1 < 4 := seaV_le _ _ _ rfl (by decide)
  have hge : 1 ≤ seaV sizB 5 1 m 2 2 1 := seaV_ge _ _ _ (by decide) (by decide)
  unfold sol bestM
  generalize hs : seaV sizB 5 1 m 2 2 1 = a at hlt hge ⊢
  have hc : a = 1 ∨ a = 2 ∨ a = 3 := by omega
  rcases hc with rfl | rfl | rfl
  · refine Eq.trans (sx_soS_4_1_1 9 (M + 3) K m) ?_
    show _ = match (match eqB (m 6) 0 with | true => none | false => _ : Option (Nat → Nat)) with | some m => _ | none => _
    cases eqB (m 6) 0 with
    | true => exact hZ _
    | false => exact Eq.trans (el_soS_4_1 9 6 _ (swapM 5 1 1 m)) (Eq.trans (ex_soS_4_1 9 (M + 3) K _) (lo_soS_4_2 M K Z hZ _))
  · refine Eq.trans (sx_soS_4_1_2 9 (M + 3) K m) ?_
    show _ = match (match eqB (m 11) 0 with | true => none | false => _ : Option (Nat → Nat)) with | some m => _ | none => _
    cases eqB (m 11) 0 with
    | true => exact hZ _
    | false => exact Eq.trans (el_soS_4_1 9 6 _ (swapM 5 1 2 m)) (Eq.trans (ex_soS_4_1 9 (M + 3) K _) (lo_soS_4_2 M K Z hZ _))
  · refine Eq.trans (sx_soS_4_1_3 9 (M + 3) K m) ?_
    show _ = match (match eqB (m 16) 0 with | true => none | false => _ : Option (Nat → Nat)) with | some m => _ | none => _
    cases eqB (m 16) 0 with
    | true => exact hZ _
    | false => exact Eq.trans (el_soS_4_1 9 6 _ (swapM 5 1 3 m)) (Eq.trans (ex_soS_4_1 9 (M + 3) K _) (lo_soS_4_2 M K Z hZ _))
theorem lo_soS_4_0 {R : Type} (M : Nat) (K : X → St → Option R) (Z : Option R) (hZ : ∀ m, K .ret (stR_soS_4 m) = Z) (m : Nat → Nat) : lpO_soS 6 9 (M + 5) (stO_soS_4 0 m) K
    = match sol sizB 5 4 4 0 m with | some m => K (.exit 0) (stX_soS_4 m) | none => Z := by
  refine Eq.trans (head_soS_4_0 9 (M + 4) K m) ?_
  refine Eq.trans (se_soS_4_0_1_0 9 5 _ m) ?_
  have hlt : seaV sizB 5 0 m 3 1 0 < 4 := seaV_le _ _ _ rfl (by decide)
  have hge : 0 ≤ seaV sizB 5 0 m 3 1 0 := seaV_ge _ _ _ (by decide) (by decide)
  unfold sol bestM
  generalize hs : seaV sizB 5 0 m 3 1 0 = a at hlt hge ⊢
  have hc : a = 0 ∨ a = 1 ∨ a = 2 ∨ a = 3 := by omega
  rcases hc with rfl | rfl | rfl | rfl
  · refine Eq.trans (sx_soS_4_0_0 9 (M + 4) K m) ?_
    show _ = match (match eqB (m 0) 0 with | true => none | false => _ : Option (Nat → Nat)) with | some m => _ | none => _
    cases eqB (m 0) 0 with
    | true => exact hZ _
    | false => exact Eq.trans (el_soS_4_0 9 5 _ (swapM 5 0 0 m)) (Eq.trans (ex_soS_4_0 9 (M + 4) K _) (lo_soS_4_1 M K Z hZ _))
  · refine Eq.trans (sx_soS_4_0_1 9 (M + 4) K m) ?_
    show _ = match (match eqB (m 5) 0 with | true => none | false => _ : Option (Nat → Nat)) with | some m => _ | none => _
    cases eqB (m 5) 0 with
    | true => exact hZ _
    | false => exact Eq.trans (el_soS_4_0 9 5 _ (swapM 5 0 1 m)) (Eq.trans (ex_soS_4_0 9 (M + 4) K _) (lo_soS_4_1 M K Z hZ _))
  · refine Eq.trans (sx_soS_4_0_2 9 (M + 4) K m) ?_
    show _ = match (match eqB (m 10) 0 with | true => none | false => _ : Option (Nat → Nat)) with | some m => _ | none => _
    cases eqB (m 10) 0 with
    | true => exact hZ _
    | false => exact Eq.trans (el_soS_4_0 9 5 _ (swapM 5 0 2 m)) (Eq.trans (ex_soS_4_0 9 (M + 4) K _) (lo_soS_4_1 M K Z hZ _))
  · refine Eq.trans (sx_soS_4_0_3 9 (M + 4) K m) ?_
    show _ = match (match eqB (m 15) 0 with | true => none | false => _ : Option (Nat → Nat)) with | some m => _ | none => _
    cases eqB (m 15) 0 with
    | true => exact hZ _
    | false => exact Eq.trans (el_soS_4_0 9 5 _ (swapM 5 0 3 m)) (Eq.trans (ex_soS_4_0 9 (M + 4) K _) (lo_soS_4_1 M K Z hZ _))
theorem run_soS_4 (N : Nat) (m : Nat → Nat) : runM ty tab_soS an_soS N Try.f12 [.sl 0 0 4, .sl 1 0 4] (hSol 4 m)
    = lpO_soS 6 N N (stO_soS_4 0 m) (ktO_soS 6 N (kEnd Try.f12 6)) := by
  kernel_rfl
theorem end_soS_4 (N : Nat) (m : Nat → Nat) : ktO_soS 6 N (kEnd Try.f12 6) (.exit 0) (stX_soS_4 m)
    = some (.tup [.a (.sl 6 0 4), .a (.bool true)], [.gone, .gone, .gone, .gone, .gone, .gone, .at true (.fl .f32 (bkL 5 4 m 4))]) := by
  kernel_rfl
theorem endr_soS_4 (N : Nat) (m : Nat → Nat) : ktO_soS 6 N (kEnd Try.f12 6) .ret (stR_soS_4 m)
    = some (.tup [.a (.nil), .a (.bool false)], [.gone, .gone, .gone, .gone, .gone, .gone]) := by
  kernel_rfl
theorem so_4 (m : Nat → Nat) : runM ty tab_soS an_soS 9 Try.f12 [.sl 0 0 4, .sl 1 0 4] (hSol 4 m) = (solT 4 m).run := by
  refine Eq.trans (run_soS_4 9 m) ?_
  refine Eq.trans (lo_soS_4_0 4 (ktO_soS 6 9 (kEnd Try.f12 6)) _ (fun m => endr_soS_4 9 m) m) ?_
  unfold solT solL solM solOk
  cases sol sizB 5 4 4 0 m with
  | none => rfl
  | some m' => exact end_soS_4 9 m'
theorem ok_soS_4 : FnT Try.prog 12 (gSol 4) := by
  refine fnM tabok_soS Try.func12 rfl rfl an_soS fun vs h v h' e => ?_
  unfold gSol at e
  split at e
  case h_2 => exact (T.no_inv e).elim
  rename_i m hm
  obtain ⟨rfl, rfl⟩ := readS_inv hm
  exact ⟨hSol_rw 4 m, 9, (so_4 m).trans e⟩
end Go.Proofs.Ytppdnhjcnjfppaa.Ab
