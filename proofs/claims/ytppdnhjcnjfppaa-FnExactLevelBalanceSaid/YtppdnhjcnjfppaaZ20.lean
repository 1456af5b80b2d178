/- What the proof names: lemmas and words, merged by a program from its parts. No condition. -/
import Derived.Test.YtppdnhjcnjfppaaZ9
namespace Go.Proofs.Ytppdnhjcnjfppaa.Ab
set_option linter.unusedVariables false
set_option linter.unusedSimpArgs false
open Go
def stO_soS_6 (k : Int) (m : Nat → Nat) : St := ⟨(.sl 8 0 6 :: .sl 9 0 6 :: .any :: .any :: .any :: .any :: .int .i64 6 :: .int .i64 k :: (anys 194 [])), [.gone, .gone, .gone, .gone, .gone, .gone, .gone, .gone, .at true (.as 1 [.sl 10 0 6, .sl 11 0 6, .sl 12 0 6, .sl 13 0 6, .sl 14 0 6, .sl 15 0 6]), .at true (.fl .f32 [m 6, m 13, m 20, m 27, m 34, m 41]), .at true (.fl .f32 [m 0, m 1, m 2, m 3, m 4, m 5]), .at true (.fl .f32 [m 7, m 8, m 9, m 10, m 11, m 12]), .at true (.fl .f32 [m 14, m 15, m 16, m 17, m 18, m 19]), .at true (.fl .f32 [m 21, m 22, m 23, m 24, m 25, m 26]), .at true (.fl .f32 [m 28, m 29, m 30, m 31, m 32, m 33]), .at true (.fl .f32 [m 35, m 36, m 37, m 38, m 39, m 40])]⟩
def stS_soS_6 (k : Int) (i : Int) (a : Int) (m : Nat → Nat) : St := ⟨(.sl 8 0 6 :: .sl 9 0 6 :: .any :: .any :: .any :: .any :: .int .i64 6 :: .int .i64 k :: .int .i64 a :: .int .i64 i :: (anys 192 [])), [.gone, .gone, .gone, .gone, .gone, .gone, .gone, .gone, .at true (.as 1 [.sl 10 0 6, .sl 11 0 6, .sl 12 0 6, .sl 13 0 6, .sl 14 0 6, .sl 15 0 6]), .at true (.fl .f32 [m 6, m 13, m 20, m 27, m 34, m 41]), .at true (.fl .f32 [m 0, m 1, m 2, m 3, m 4, m 5]), .at true (.fl .f32 [m 7, m 8, m 9, m 10, m 11, m 12]), .at true (.fl .f32 [m 14, m 15, m 16, m 17, m 18, m 19]), .at true (.fl .f32 [m 21, m 22, m 23, m 24, m 25, m 26]), .at true (.fl .f32 [m 28, m 29, m 30, m 31, m 32, m 33]), .at true (.fl .f32 [m 35, m 36, m 37, m 38, m 39, m 40])]⟩
def sts_soS_6 (k : Int) (a : Int) (m : Nat → Nat) : St := ⟨(.sl 8 0 6 :: .sl 9 0 6 :: .any :: .any :: .any :: .any :: .int .i64 6 :: .int .i64 k :: .int .i64 a :: (anys 193 [])), [.gone, .gone, .gone, .gone, .gone, .gone, .gone, .gone, .at true (.as 1 [.sl 10 0 6, .sl 11 0 6, .sl 12 0 6, .sl 13 0 6, .sl 14 0 6, .sl 15 0 6]), .at true (.fl .f32 [m 6, m 13, m 20, m 27, m 34, m 41]), .at true (.fl .f32 [m 0, m 1, m 2, m 3, m 4, m 5]), .at true (.fl .f32 [m 7, m 8, m 9, m 10, m 11, m 12]), .at true (.fl .f32 [m 14, m 15, m 16, m 17, m 18, m 19]), .at true (.fl .f32 [m 21, m 22, m 23, m 24, m 25, m 26]), .at true (.fl .f32 [m 28, m 29, m 30, m 31, m 32, m 33]), .at true (.fl .f32 [m 35, m 36, m 37, m 38, m 39, m 40])]⟩
def stE_soS_6 (k : Int) (i : Int) (m : Nat → Nat) : St := ⟨(.sl 8 0 6 :: .sl 9 0 6 :: .any :: .any :: .any :: .any :: .int .i64 6 :: .int .i64 k :: .any :: .any :: .any :: .any :: .int .i64 i :: (anys 189 [])), [.gone, .gone, .gone, .gone, .gone, .gone, .gone, .gone, .at true (.as 1 [.sl 10 0 6, .sl 11 0 6, .sl 12 0 6, .sl 13 0 6, .sl 14 0 6, .sl 15 0 6]), .at true (.fl .f32 [m 6, m 13, m 20, m 27, m 34, m 41]), .at true (.fl .f32 [m 0, m 1, m 2, m 3, m 4, m 5]), .at true (.fl .f32 [m 7, m 8, m 9, m 10, m 11, m 12]), .at true (.fl .f32 [m 14, m 15, m 16, m 17, m 18, m 19]), .at true (.fl .f32 [m 21, m 22, m 23, m 24, m 25, m 26]), .at true (.fl .f32 [m 28, m 29, m 30, m 31, m 32, m 33]), .at true (.fl .f32 [m 35, m 36, m 37, m 38, m 39, m 40])]⟩
def ste_soS_6 (k : Int) (m : Nat → Nat) : St := ⟨(.sl 8 0 6 :: .sl 9 0 6 :: .any :: .any :: .any :: .any :: .int .i64 6 :: .int .i64 k :: (anys 194 [])), [.gone, .gone, .gone, .gone, .gone, .gone, .gone, .gone, .at true (.as 1 [.sl 10 0 6, .sl 11 0 6, .sl 12 0 6, .sl 13 0 6, .sl 14 0 6, .sl 15 0 6]), .at true (.fl .f32 [m 6, m 13, m 20, m 27, m 34, m 41]), .at true (.fl .f32 [m 0, m 1, m 2, m 3, m 4, m 5]), .at true (.fl .f32 [m 7, m 8, m 9, m 10, m 11, m 12]), .at true (.fl .f32 [m 14, m 15, m 16, m 17, m 18, m 19]), .at true (.fl .f32 [m 21, m 22, m 23, m 24, m 25, m 26]), .at true (.fl .f32 [m 28, m 29, m 30, m 31, m 32, m 33]), .at true (.fl .f32 [m 35, m 36, m 37, m 38, m 39, m 40])]⟩
def stX_soS_6 (m : Nat → Nat) : St := ⟨(.sl 8 0 6 :: .sl 9 0 6 :: .any :: .any :: .any :: .any :: .int .i64 6 :: (anys 195 [])), [.gone, .gone, .gone, .gone, .gone, .gone, .gone, .gone, .at true (.as 1 [.sl 10 0 6, .sl 11 0 6, .sl 12 0 6, .sl 13 0 6, .sl 14 0 6, .sl 15 0 6]), .at true (.fl .f32 [m 6, m 13, m 20, m 27, m 34, m 41]), .at true (.fl .f32 [m 0, m 1, m 2, m 3, m 4, m 5]), .at true (.fl .f32 [m 7, m 8, m 9, m 10, m 11, m 12]), .at true (.fl .f32 [m 14, m 15, m 16, m 17, m 18, m 19]), .at true (.fl .f32 [m 21, m 22, m 23, m 24, m 25, m 26]), .at true (.fl .f32 [m 28, m 29, m 30, m 31, m 32, m 33]), .at true (.fl .f32 [m 35, m 36, m 37, m 38, m 39, m 40])]⟩
def stR_soS_6 (m : Nat → Nat) : St := ⟨(.sl 8 0 6 :: .sl 9 0 6 :: .any :: .any :: .nil :: .bool false :: .int .i64 6 :: (anys 195 [])), [.gone, .gone, .gone, .gone, .gone, .gone, .gone, .gone, .at true (.as 1 [.sl 10 0 6, .sl 11 0 6, .sl 12 0 6, .sl 13 0 6, .sl 14 0 6, .sl 15 0 6]), .at true (.fl .f32 [m 6, m 13, m 20, m 27, m 34, m 41]), .at true (.fl .f32 [m 0, m 1, m 2, m 3, m 4, m 5]), .at true (.fl .f32 [m 7, m 8, m 9, m 10, m 11, m 12]), .at true (.fl .f32 [m 14, m 15, m 16, m 17, m 18, m 19]), .at true (.fl .f32 [m 21, m 22, m 23, m 24, m 25, m 26]), .at true (.fl .f32 [m 28, m 29, m 30, m 31, m 32, m 33]), .at true (.fl .f32 [m 35, m 36, m 37, m 38, m 39, m 40])]⟩
theorem head_soS_6_0 {R : Type} (N M : Nat) (K : X → St → Option R) (m : Nat → Nat) : lpO_soS 8 N (M + 1) (stO_soS_6 0 m) K
    = lpS_soS 8 N N (stS_soS_6 0 1 0 m) (ktS_soS 8 N (bk_soS 8 N M K)) := by
  kernel_rfl
theorem se_soS_6_0_6_5 {R : Type} (N M : Nat) (K : X → St → Option R) (m : Nat → Nat) : lpS_soS 8 N (M + 1) (stS_soS_6 0 6 5 m) K
    = K (.exit 2) (sts_soS_6 0 5 m) := by
  kernel_rfl
theorem se_soS_6_0_6_4 {R : Type} (N M : Nat) (K : X → St → Option R) (m : Nat → Nat) : lpS_soS 8 N (M + 1) (stS_soS_6 0 6 4 m) K
    = K (.exit 2) (sts_soS_6 0 4 m) := by
  kernel_rfl
theorem se_soS_6_0_6_3 {R : Type} (N M : Nat) (K : X → St → Option R) (m : Nat → Nat) : lpS_soS 8 N (M + 1) (stS_soS_6 0 6 3 m) K
    = K (.exit 2) (sts_soS_6 0 3 m) := by
  kernel_rfl
theorem se_soS_6_0_6_2 {R : Type} (N M : Nat) (K : X → St → Option R) (m : Nat → Nat) : lpS_soS 8 N (M + 1) (stS_soS_6 0 6 2 m) K
    = K (.exit 2) (sts_soS_6 0 2 m) := by
  kernel_rfl
theorem se_soS_6_0_6_1 {R : Type} (N M : Nat) (K : X → St → Option R) (m : Nat → Nat) : lpS_soS 8 N (M + 1) (stS_soS_6 0 6 1 m) K
    = K (.exit 2) (sts_soS_6 0 1 m) := by
  kernel_rfl
theorem se_soS_6_0_6_0 {R : Type} (N M : Nat) (K : X → St → Option R) (m : Nat → Nat) : lpS_soS 8 N (M + 1) (stS_soS_6 0 6 0 m) K
    = K (.exit 2) (sts_soS_6 0 0 m) := by
  kernel_rfl
theorem sf_soS_6_0_5_4 {R : Type} (N M : Nat) (K : X → St → Option R) (m : Nat → Nat) : lpS_soS 8 N (M + 1) (stS_soS_6 0 5 4 m) K
    = match gtB (sizB (m 35)) (sizB (m 28)) with | true => lpS_soS 8 N M (stS_soS_6 0 6 5 m) K | false => lpS_soS 8 N M (stS_soS_6 0 6 4 m) K := by
  kernel_rfl
theorem se_soS_6_0_5_4 {R : Type} (N M : Nat) (K : X → St → Option R) (m : Nat → Nat) : lpS_soS 8 N (M + 2) (stS_soS_6 0 5 4 m) K
    = K (.exit 2) (sts_soS_6 0 ((seaV sizB 7 0 m 1 5 4 : Nat) : Int) m) := by
  refine Eq.trans (sf_soS_6_0_5_4 N (M + 1) K m) ?_
  unfold seaV
  show _ = K _ (sts_soS_6 0 ((match gtB (sizB (m 35)) (sizB (m 28)) with | true => _ | false => _ : Nat) : Int) m)
  cases gtB (sizB (m 35)) (sizB (m 28))
  · exact se_soS_6_0_6_4 N M K m
  · exact se_soS_6_0_6_5 N M K m
theorem sf_soS_6_0_5_3 {R : Type} (N M : Nat) (K : X → St → Option R) (m : Nat → Nat) : lpS_soS 8 N (M + 1) (stS_soS_6 0 5 3 m) K
    = match gtB (sizB (m 35)) (sizB (m 21)) with | true => lpS_soS 8 N M (stS_soS_6 0 6 5 m) K | false => lpS_soS 8 N M (stS_soS_6 0 6 3 m) K := by
  kernel_rfl
theorem se_soS_6_0_5_3 {R : Type} (N M : Nat) (K : X → St → Option R) (m : Nat → Nat) : lpS_soS 8 N (M + 2) (stS_soS_6 0 5 3 m) K
    = K (.exit 2) (sts_soS_6 0 ((seaV sizB 7 0 m 1 5 3 : Nat) : Int) m) := by
  refine Eq.trans (sf_soS_6_0_5_3 N (M + 1) K m) ?_
  unfold seaV
  show _ = K _ (sts_soS_6 0 ((match gtB (sizB (m 35)) (sizB (m 21)) with | true => _ | false => _ : Nat) : Int) m)
  cases gtB (sizB (m 35)) (sizB (m 21))
  · exact se_soS_6_0_6_3 N M K m
  · exact se_soS_6_0_6_5 N M K m
theorem sf_soS_6_0_5_2 {R : Type} (N M : Nat) (K : X → St → Option R) (m : Nat → Nat) : lpS_soS 8 N (M + 1) (stS_soS_6 0 5 2 m) K
    = match gtB (sizB (m 35)) (sizB (m 14)) with | true => lpS_soS 8 N M (stS_soS_6 0 6 5 m) K | false => lpS_soS 8 N M (stS_soS_6 0 6 2 m) K := by
  kernel_rfl
theorem se_soS_6_0_5_2 {R : Type} (N M : Nat) (K : X → St → Option R) (m : Nat → Nat) : lpS_soS 8 N (M + 2) (stS_soS_6 0 5 2 m) K
    = K (.exit 2) (sts_soS_6 0 ((seaV sizB 7 0 m 1 5 2 : Nat) : Int) m) := by
  refine Eq.trans (sf_soS_6_0_5_2 N (M + 1) K m) ?_
  unfold seaV
  show _ = K _ (sts_soS_6 0 ((match gtB (sizB (m 35)) (sizB (m 14)) with | true => _ | false => _ : Nat) : Int) m)
  cases gtB (sizB (m 35)) (sizB (m 14))
  · exact se_soS_6_0_6_2 N M K m
  · exact se_soS_6_0_6_5 N M K m
theorem sf_soS_6_0_5_1 {R : Type} (N M : Nat) (K : X → St → Option R) (m : Nat → Nat) : lpS_soS 8 N (M + 1) (stS_soS_6 0 5 1 m) K
    = match gtB (sizB (m 35)) (sizB (m 7)) with | true => lpS_soS 8 N M (stS_soS_6 0 6 5 m) K | false => lpS_soS 8 N M (stS_soS_6 0 6 1 m) K := by
  kernel_rfl
theorem se_soS_6_0_5_1 {R : Type} (N M : Nat) (K : X → St → Option R) (m : Nat → Nat) : lpS_soS 8 N (M + 2) (stS_soS_6 0 5 1 m) K
    = K (.exit 2) (sts_soS_6 0 ((seaV sizB 7 0 m 1 5 1 : Nat) : Int) m) := by
  refine Eq.trans (sf_soS_6_0_5_1 N (M + 1) K m) ?_
  unfold seaV
  show _ = K _ (sts_soS_6 0 ((match gtB (sizB (m 35)) (sizB (m 7)) with | true => _ | false => _ : Nat) : Int) m)
  cases gtB (sizB (m 35)) (sizB (m 7))
  · exact se_soS_6_0_6_1 N M K m
  · exact se_soS_6_0_6_5 N M K m
theorem sf_soS_6_0_5_0 {R : Type} (N M : Nat) (K : X → St → Option R) (m : Nat → Nat) : lpS_soS 8 N (M + 1) (stS_soS_6 0 5 0 m) K
    = match gtB (sizB (m 35)) (sizB (m 0)) with | true => lpS_soS 8 N M (stS_soS_6 0 6 5 m) K | false => lpS_soS 8 N M (stS_soS_6 0 6 0 m) K := by
  kernel_rfl
theorem se_soS_6_0_5_0 {R : Type} (N M : Nat) (K : X → St → Option R) (m : Nat → Nat) : lpS_soS 8 N (M + 2) (stS_soS_6 0 5 0 m) K
    = K (.exit 2) (sts_soS_6 0 ((seaV sizB 7 0 m 1 5 0 : Nat) : Int) m) := by
  refine Eq.trans (sf_soS_6_0_5_0 N (M + 1) K m) ?_
  unfold seaV
  show _ = K _ (sts_soS_6 0 ((match gtB (sizB (m 35)) (sizB (m 0)) with | true => _ | false => _ : Nat) : Int) m)
  cases gtB (sizB (m 35)) (sizB (m 0))
  · exact se_soS_6_0_6_0 N M K m
  · exact se_soS_6_0_6_5 N M K m
theorem sf_soS_6_0_4_3 {R : Type} (N M : Nat) (K : X → St → Option R) (m : Nat → Nat) : lpS_soS 8 N (M + 1) (stS_soS_6 0 4 3 m) K
    = match gtB (sizB (m 28)) (sizB (m 21)) with | true => lpS_soS 8 N M (stS_soS_6 0 5 4 m) K | false => lpS_soS 8 N M (stS_soS_6 0 5 3 m) K := by
  kernel_rfl
theorem se_soS_6_0_4_3 {R : Type} (N M : Nat) (K : X → St → Option R) (m : Nat → Nat) : lpS_soS 8 N (M + 3) (stS_soS_6 0 4 3 m) K
    = K (.exit 2) (sts_soS_6 0 ((seaV sizB 7 0 m 2 4 3 : Nat) : Int) m) := by
  refine Eq.trans (sf_soS_6_0_4_3 N (M + 2) K m) ?_
  unfold seaV
  show _ = K _ (sts_soS_6 0 ((match gtB (sizB (m 28)) (sizB (m 21)) with | true => _ | false => _ : Nat) : Int) m)
  cases gtB (sizB (m 28)) (sizB (m 21))
  · exact se_soS_6_0_5_3 N M K m
  · exact se_soS_6_0_5_4 N M K m
theorem sf_soS_6_0_4_2 {R : Type} (N M : Nat) (K : X → St → Option R) (m : Nat → Nat) : lpS_soS 8 N (M + 1) (stS_soS_6 0 4 2 m) K
    = match gtB (sizB (m 28)) (sizB (m 14)) with | true => lpS_soS 8 N M (stS_soS_6 0 5 4 m) K | false => lpS_soS 8 N M (stS_soS_6 0 5 2 m) K := by
  kernel_rfl
theorem se_soS_6_0_4_2 {R : Type} (N M : Nat) (K : X → St → Option R) (m : Nat → Nat) : lpS_soS 8 N (M + 3) (stS_soS_6 0 4 2 m) K
    = K (.exit 2) (sts_soS_6 0 ((seaV sizB 7 0 m 2 4 2 : Nat) : Int) m) := by
  refine Eq.trans (sf_soS_6_0_4_2 N (M + 2) K m) ?_
  unfold seaV
  show _ = K _ (sts_soS_6 0 ((match gtB (sizB (m 28)) (sizB (m 14)) with | true => _ | false => _ : Nat) : Int) m)
  cases gtB (sizB (m 28)) (sizB (m 14))
  · exact se_soS_6_0_5_2 N M K m
  · exact se_soS_6_0_5_4 N M K m
theorem sf_soS_6_0_4_1 {R : Type} (N M : Nat) (K : X → St → Option R) (m : Nat → Nat) : lpS_soS 8 N (M + 1) (stS_soS_6 0 4 1 m) K
    = match gtB (sizB (m 28)) (sizB (m 7)) with | true => lpS_soS 8 N M (stS_soS_6 0 5 4 m) K | false => lpS_soS 8 N M (stS_soS_6 0 5 1 m) K := by
  kernel_rfl
theorem se_soS_6_0_4_1 {R : Type} (N M : Nat) (K : X → St → Option R) (m : Nat → Nat) : lpS_soS 8 N (M + 3) (stS_soS_6 0 4 1 m) K
    = K (.exit 2) (sts_soS_6 0 ((seaV sizB 7 0 m 2 4 1 : Nat) : Int) m) := by
  refine Eq.trans (sf_soS_6_0_4_1 N (M + 2) K m) ?_
  unfold seaV
  show _ = K _ (sts_soS_6 0 ((match gtB (sizB (m 28)) (sizB (m 7)) with | true => _ | false => _ : Nat) : Int) m)
  cases gtB (sizB (m 28)) (sizB (m 7))
  · exact se_soS_6_0_5_1 N M K m
  · exact se_soS_6_0_5_4 N M K m
theorem sf_soS_6_0_4_0 {R : Type} (N M : Nat) (K : X → St → Option R) (m : Nat → Nat) : lpS_soS 8 N (M + 1) (stS_soS_6 0 4 0 m) K
    = match gtB (sizB (m 28)) (sizB (m 0)) with | true => lpS_soS 8 N M (stS_soS_6 0 5 4 m) K | false => lpS_soS 8 N M (stS_soS_6 0 5 0 m) K := by
  kernel_rfl
theorem se_soS_6_0_4_0 {R : Type} (N M : Nat) (K : X → St → Option R) (m : Nat → Nat) : lpS_soS 8 N (M + 3) (stS_soS_6 0 4 0 m) K
    = K (.exit 2) (sts_soS_6 0 ((seaV sizB 7 0 m 2 4 0 : Nat) : Int) m) := by
  refine Eq.trans (sf_soS_6_0_4_0 N (M + 2) K m) ?_
  unfold seaV
  show _ = K _ (sts_soS_6 0 ((match gtB (sizB (m 28)) (sizB (m 0)) with | true => _ | false => _ : Nat) : Int) m)
  cases gtB (sizB (m 28)) (sizB (m 0))
  · exact se_soS_6_0_5_0 N M K m
  · exact se_soS_6_0_5_4 N M K m
theorem sf_soS_6_0_3_2 {R : Type} (N M : Nat) (K : X → St → Option R) (m : Nat → Nat) : lpS_soS 8 N (M + 1) (stS_soS_6 0 3 2 m) K
    = match gtB (sizB (m 21)) (sizB (m 14)) with | true => lpS_soS 8 N M (stS_soS_6 0 4 3 m) K | false => lpS_soS 8 N M (stS_soS_6 0 4 2 m) K := by
  kernel_rfl
theorem se_soS_6_0_3_2 {R : Type} (N M : Nat) (K : X → St → Option R) (m : Nat → Nat) : lpS_soS 8 N (M + 4) (stS_soS_6 0 3 2 m) K
    = K (.exit 2) (sts_soS_6 0 ((seaV sizB 7 0 m 3 3 2 : Nat) : Int) m) := by
  refine Eq.trans (sf_soS_6_0_3_2 N (M + 3) K m) ?_
  unfold seaV
  show _ = K _ (sts_soS_6 0 ((match gtB (sizB (m 21)) (sizB (m 14)) with | true => _ | false => _ : Nat) : Int) m)
  cases gtB (sizB (m 21)) (sizB (m 14))
  · exact se_soS_6_0_4_2 N M K m
  · exact se_soS_6_0_4_3 N M K m
theorem sf_soS_6_0_3_1 {R : Type} (N M : Nat) (K : X → St → Option R) (m : Nat → Nat) : lpS_soS 8 N (M + 1) (stS_soS_6 0 3 1 m) K
    = match gtB (sizB (m 21)) (sizB (m 7)) with | true => lpS_soS 8 N M (stS_soS_6 0 4 3 m) K | false => lpS_soS 8 N M (stS_soS_6 0 4 1 m) K := by
  kernel_rfl
theorem se_soS_6_0_3_1 {R : Type} (N M : Nat) (K : X → St → Option R) (m : Nat → Nat) : lpS_soS 8 N (M + 4) (stS_soS_6 0 3 1 m) K
    = K (.exit 2) (sts_soS_6 0 ((seaV sizB 7 0 m 3 3 1 : Nat) : Int) m) := by
  refine Eq.trans (sf_soS_6_0_3_1 N (M + 3) K m) ?_
  unfold seaV
  show _ = K _ (sts_soS_6 0 ((match gtB (sizB (m 21)) (sizB (m 7)) with | true => _ | false => _ : Nat) : Int) m)
  cases gtB (sizB (m 21)) (sizB (m 7))
  · exact se_soS_6_0_4_1 N M K m
  · exact se_soS_6_0_4_3 N M K m
theorem sf_soS_6_0_3_0 {R : Type} (N M : Nat) (K : X → St → Option R) (m : Nat → Nat) : lpS_soS 8 N (M + 1) (stS_soS_6 0 3 0 m) K
    = match gtB (sizB (m 21)) (sizB (m 0)) with | true => lpS_soS 8 N M (stS_soS_6 0 4 3 m) K | false => lpS_soS 8 N M (stS_soS_6 0 4 0 m) K := by
  kernel_rfl
theorem se_soS_6_0_3_0 {R : Type} (N M : Nat) (K : X → St → Option R) (m : Nat → Nat) : lpS_soS 8 N (M + 4) (stS_soS_6 0 3 0 m) K
    = K (.exit 2) (sts_soS_6 0 ((seaV sizB 7 0 m 3 3 0 : Nat) : Int) m) := by
  refine Eq.trans (sf_soS_6_0_3_0 N (M + 3) K m) ?_
  unfold seaV
  show _ = K _ (sts_soS_6 0 ((match gtB (sizB (m 21)) (sizB (m 0)) with | true => _ | false => _ : Nat) : Int) m)
  cases gtB (sizB (m 21)) (sizB (m 0))
  · exact se_soS_6_0_4_0 N M K m
  · exact se_soS_6_0_4_3 N M K m
theorem sf_soS_6_0_2_1 {R : Type} (N M : Nat) (K : X → St → Option R) (m : Nat → Nat) : lpS_soS 8 N (M + 1) (stS_soS_6 0 2 1 m) K
    = match gtB (sizB (m 14)) (sizB (m 7)) with | true => lpS_soS 8 N M (stS_soS_6 0 3 2 m) K | false => lpS_soS 8 N M (stS_soS_6 0 3 1 m) K := by
  kernel_rfl
theorem se_soS_6_0_2_1 {R : Type} (N M : Nat) (K : X → St → Option R) (m : Nat → Nat) : lpS_soS 8 N (M + 5) (stS_soS_6 0 2 1 m) K
    = K (.exit 2) (sts_soS_6 0 ((seaV sizB 7 0 m 4 2 1 : Nat) : Int) m) := by
  refine Eq.trans (sf_soS_6_0_2_1 N (M + 4) K m) ?_
  unfold seaV
  show _ = K _ (sts_soS_6 0 ((match gtB (sizB (m 14)) (sizB (m 7)) with | true => _ | false => _ : Nat) : Int) m)
  cases gtB (sizB (m 14)) (sizB (m 7))
  · exact se_soS_6_0_3_1 N M K m
  · exact se_soS_6_0_3_2 N M K m
theorem sf_soS_6_0_2_0 {R : Type} (N M : Nat) (K : X → St → Option R) (m : Nat → Nat) : lpS_soS 8 N (M + 1) (stS_soS_6 0 2 0 m) K
    = match gtB (sizB (m 14)) (sizB (m 0)) with | true => lpS_soS 8 N M (stS_soS_6 0 3 2 m) K | false => lpS_soS 8 N M (stS_soS_6 0 3 0 m) K := by
  kernel_rfl
theorem se_soS_6_0_2_0 {R : Type} (N M : Nat) (K : X → St → Option R) (m : Nat → Nat) : lpS_soS 8 N (M + 5) (stS_soS_6 0 2 0 m) K
    = K (.exit 2) (sts_soS_6 0 ((seaV sizB 7 0 m 4 2 0 : Nat) : Int) m) := by
  refine Eq.trans (sf_soS_6_0_2_0 N (M + 4) K m) ?_
  unfold seaV
  show _ = K _ (sts_soS_6 0 ((match gtB (sizB (m 14)) (sizB (m 0)) with | true => _ | false => _ : Nat) : Int) m)
  cases gtB (sizB (m 14)) (sizB (m 0))
  · exact se_soS_6_0_3_0 N M K m
  · exact se_soS_6_0_3_2 N M K m
theorem sf_soS_6_0_1_0 {R : Type} (N M : Nat) (K : X → St → Option R) (m : Nat → Nat) : lpS_soS 8 N (M + 1) (stS_soS_6 0 1 0 m) K
    = match gtB (sizB (m 7)) (sizB (m 0)) with | true => lpS_soS 8 N M (stS_soS_6 0 2 1 m) K | false => lpS_soS 8 N M (stS_soS_6 0 2 0 m) K := by
  kernel_rfl
theorem se_soS_6_0_1_0 {R : Type} (N M : Nat) (K : X → St → Option R) (m : Nat → Nat) : lpS_soS 8 N (M + 6) (stS_soS_6 0 1 0 m) K
    = K (.exit 2) (sts_soS_6 0 ((seaV sizB 7 0 m 5 1 0 : Nat) : Int) m) := by
  refine Eq.trans (sf_soS_6_0_1_0 N (M + 5) K m) ?_
  unfold seaV
  show _ = K _ (sts_soS_6 0 ((match gtB (sizB (m 7)) (sizB (m 0)) with | true => _ | false => _ : Nat) : Int) m)
  cases gtB (sizB (m 7)) (sizB (m 0))
  · exact se_soS_6_0_2_0 N M K m
  · exact se_soS_6_0_2_1 N M K m
theorem sx_soS_6_0_0 {R : Type} (N M : Nat) (K : X → St → Option R) (m : Nat → Nat) : ktS_soS 8 N (bk_soS 8 N M K) (.exit 2) (sts_soS_6 0 0 m)
    = match eqB (m 0) 0 with | true => K .ret (stR_soS_6 (swapM 7 0 0 m)) | false => lpE_soS 8 N N (stE_soS_6 0 1 (swapM 7 0 0 m)) (ktE_soS 8 N (bk_soS 8 N M K)) := by
  kernel_rfl
theorem sx_soS_6_0_1 {R : Type} (N M : Nat) (K : X → St → Option R) (m : Nat → Nat) : ktS_soS 8 N (bk_soS 8 N M K) (.exit 2) (sts_soS_6 0 1 m)
    = match eqB (m 7) 0 with | true => K .ret (stR_soS_6 (swapM 7 0 1 m)) | false => lpE_soS 8 N N (stE_soS_6 0 1 (swapM 7 0 1 m)) (ktE_soS 8 N (bk_soS 8 N M K)) := by
  kernel_rfl
theorem sx_soS_6_0_2 {R : Type} (N M : Nat) (K : X → St → Option R) (m : Nat → Nat) : ktS_soS 8 N (bk_soS 8 N M K) (.exit 2) (sts_soS_6 0 2 m)
    = match eqB (m 14) 0 with | true => K .ret (stR_soS_6 (swapM 7 0 2 m)) | false => lpE_soS 8 N N (stE_soS_6 0 1 (swapM 7 0 2 m)) (ktE_soS 8 N (bk_soS 8 N M K)) := by
  kernel_rfl
theorem sx_soS_6_0_3 {R : Type} (N M : Nat) (K : X → St → Option R) (m : Nat → Nat) : ktS_soS 8 N (bk_soS 8 N M K) (.exit 2) (sts_soS_6 0 3 m)
    = match eqB (m 21) 0 with | true => K .ret (stR_soS_6 (swapM 7 0 3 m)) | false => lpE_soS 8 N N (stE_soS_6 0 1 (swapM 7 0 3 m)) (ktE_soS 8 N (bk_soS 8 N M K)) := by
  kernel_rfl
theorem sx_soS_6_0_4 {R : Type} (N M : Nat) (K : X → St → Option R) (m : Nat → Nat) : ktS_soS 8 N (bk_soS 8 N M K) (.exit 2) (sts_soS_6 0 4 m)
    = match eqB (m 28) 0 with | true => K .ret (stR_soS_6 (swapM 7 0 4 m)) | false => lpE_soS 8 N N (stE_soS_6 0 1 (swapM 7 0 4 m)) (ktE_soS 8 N (bk_soS 8 N M K)) := by
  kernel_rfl
theorem sx_soS_6_0_5 {R : Type} (N M : Nat) (K : X → St → Option R) (m : Nat → Nat) : ktS_soS 8 N (bk_soS 8 N M K) (.exit 2) (sts_soS_6 0 5 m)
    = match eqB (m 35) 0 with | true => K .ret (stR_soS_6 (swapM 7 0 5 m)) | false => lpE_soS 8 N N (stE_soS_6 0 1 (swapM 7 0 5 m)) (ktE_soS 8 N (bk_soS 8 N M K)) := by
  kernel_rfl
theorem el_soS_6_0 {R : Type} (N M : Nat) (K : X → St → Option R) (m : Nat → Nat) : lpE_soS 8 N (M + 6) (stE_soS_6 0 1 m) K
    = K (.exit 4) (ste_soS_6 0 (elimM 7 0 m)) := by
  kernel_rfl
theorem ex_soS_6_0 {R : Type} (N M : Nat) (K : X → St → Option R) (m : Nat → Nat) : ktE_soS 8 N (bk_soS 8 N M K) (.exit 4) (ste_soS_6 0 m)
    = lpO_soS 8 N M (stO_soS_6 1 m) K := by
  kernel_rfl
theorem head_soS_6_1 {R : Type} (N M : Nat) (K : X → St → Option R) (m : Nat → Nat) : lpO_soS 8 N (M + 1) (stO_soS_6 1 m) K
    = lpS_soS 8 N N (stS_soS_6 1 2 1 m) (ktS_soS 8 N (bk_soS 8 N M K)) := by
  kernel_rfl
theorem se_soS_6_1_6_5 {R : Type} (N M : Nat) (K : X → St → Option R) (m : Nat → Nat) : lpS_soS 8 N (M + 1) (stS_soS_6 1 6 5 m) K
    = K (.exit 2) (sts_soS_6 1 5 m) := by
  kernel_rfl
theorem se_soS_6_1_6_4 {R : Type} (N M : Nat) (K : X → St → Option R) (m : Nat → Nat) : lpS_soS 8 N (M + 1) (stS_soS_6 1 6 4 m) K
    = K (.exit 2) (sts_soS_6 1 4 m) := by
  kernel_rfl
theorem se_soS_6_1_6_3 {R : Type} (N M : Nat) (K : X → St → Option R) (m : Nat → Nat) : lpS_soS 8 N (M + 1) (stS_soS_6 1 6 3 m) K
    = K (.exit 2) (sts_soS_6 1 3 m) := by
  kernel_rfl
theorem se_soS_6_1_6_2 {R : Type} (N M : Nat) (K : X → St → Option R) (m : Nat → Nat) : lpS_soS 8 N (M + 1) (stS_soS_6 1 6 2 m) K
    = K (.exit 2) (sts_soS_6 1 2 m) := by
  kernel_rfl
theorem se_soS_6_1_6_1 {R : Type} (N M : Nat) (K : X → St → Option R) (m : Nat → Nat) : lpS_soS 8 N (M + 1) (stS_soS_6 1 6 1 m) K
    = K (.exit 2) (sts_soS_6 1 1 m) := by
  kernel_rfl
theorem sf_soS_6_1_5_4 {R : Type} (N M : Nat) (K : X → St → Option R) (m : Nat → Nat) : lpS_soS 8 N (M + 1) (stS_soS_6 1 5 4 m) K
    = match gtB (sizB (m 36)) (sizB (m 29)) with | true => lpS_soS 8 N M (stS_soS_6 1 6 5 m) K | false => lpS_soS 8 N M (stS_soS_6 1 6 4 m) K := by
  kernel_rfl
theorem se_soS_6_1_5_4 {R : Type} (N M : Nat) (K : X → St → Option R) (m : Nat → Nat) : lpS_soS 8 N (M + 2) (stS_soS_6 1 5 4 m) K
    = K (.exit 2) (sts_soS_6 1 ((seaV sizB 7 1 m 1 5 4 : Nat) : Int) m) := by
  refine Eq.trans (sf_soS_6_1_5_4 N (M + 1) K m) ?_
  unfold seaV
  show _ = K _ (sts_soS_6 1 ((match gtB (sizB (m 36)) (sizB (m 29)) with | true => _ | false => _ : Nat) : Int) m)
  cases gtB (sizB (m 36)) (sizB (m 29))
  · exact se_soS_6_1_6_4 N M K m
  · exact se_soS_6_1_6_5 N M K m
theorem sf_soS_6_1_5_3 {R : Type} (N M : Nat) (K : X → St → Option R) (m : Nat → Nat) : lpS_soS 8 N (M + 1) (stS_soS_6 1 5 3 m) K
    = match gtB (sizB (m 36)) (sizB (m 22)) with | true => lpS_soS 8 N M (stS_soS_6 1 6 5 m) K | false => lpS_soS 8 N M (stS_soS_6 1 6 3 m) K := by
  kernel_rfl
theorem se_soS_6_1_5_3 {R : Type} (N M : Nat) (K : X → St → Option R) (m : Nat → Nat) : lpS_soS 8 N (M + 2) (stS_soS_6 1 5 3 m) K
    = K (.exit 2) (sts_soS_6 1 ((seaV sizB 7 1 m 1 5 3 : Nat) : Int) m) := by
  refine Eq.trans (sf_soS_6_1_5_3 N (M + 1) K m) ?_
  unfold seaV
  show _ = K _ (sts_soS_6 1 ((match gtB (sizB (m 36)) (sizB (m 22)) with | true => _ | false => _ : Nat) : Int) m)
  cases gtB (sizB (m 36)) (sizB (m 22))
  · exact se_soS_6_1_6_3 N M K m
  · exact se_soS_6_1_6_5 N M K m
theorem sf_soS_6_1_5_2 {R : Type} (N M : Nat) (K : X → St → Option R) (m : Nat → Nat) : lpS_soS 8 N (M + 1) (stS_soS_6 1 5 2 m) K
    = match gtB (sizB (m 36)) (sizB (m 15)) with | true => lpS_soS 8 N M (stS_soS_6 1 6 5 m) K | false => lpS_soS 8 N M (stS_soS_6 1 6 2 m) K := by
  kernel_rfl
theorem se_soS_6_1_5_2 {R : Type} (N M : Nat) (K : X → St → Option R) (m : Nat → Nat) : lpS_soS 8 N (M + 2) (stS_soS_6 1 5 2 m) K
    = K (.exit 2) (sts_soS_6 1 ((seaV sizB 7 1 m 1 5 2 : Nat) : Int) m) := by
  refine Eq.trans (sf_soS_6_1_5_2 N (M + 1) K m) ?_
  unfold seaV
  show _ = K _ (sts_soS_6 1 ((match gtB (sizB (m 36)) (sizB (m 15)) with | true => _ | false => _ : Nat) : Int) m)
  cases gtB (sizB (m 36)) (sizB (m 15))
  · exact se_soS_6_1_6_2 N M K m
  · exact se_soS_6_1_6_5 N M K m
theorem sf_soS_6_1_5_1 {R : Type} (N M : Nat) (K : X → St → Option R) (m : Nat → Nat) : lpS_soS 8 N (M + 1) (stS_soS_6 1 5 1 m) K
    = match gtB (sizB (m 36)) (sizB (m 8)) with | true => lpS_soS 8 N M (stS_soS_6 1 6 5 m) K | false => lpS_soS 8 N M (stS_soS_6 1 6 1 m) K := by
  kernel_rfl
theorem se_soS_6_1_5_1 {R : Type} (N M : Nat) (K : X → St → Option R) (m : Nat → Nat) : lpS_soS 8 N (M + 2) (stS_soS_6 1 5 1 m) K
    = K (.exit 2) (sts_soS_6 1 ((seaV sizB 7 1 m 1 5 1 : Nat) : Int) m) := by
  refine Eq.trans (sf_soS_6_1_5_1 N (M + 1) K m) ?_
  unfold seaV
  show _ = K _ (sts_soS_6 1 ((match gtB (sizB (m 36)) (sizB (m 8)) with | true => _ | false => _ : Nat) : Int) m)
  cases gtB (sizB (m 36)) (sizB (m 8))
  · exact se_soS_6_1_6_1 N M K m
  · exact se_soS_6_1_6_5 N M K m
theorem sf_soS_6_1_4_3 {R : Type} (N M : Nat) (K : X → St → Option R) (m : Nat → Nat) : lpS_soS 8 N (M + 1) (stS_soS_6 1 4 3 m) K
    = match gtB (sizB (m 29)) (sizB (m 22)) with | true => lpS_soS 8 N M (stS_soS_6 1 5 4 m) K | false => lpS_soS 8 N M (stS_soS_6 1 5 3 m) K := by
  kernel_rfl
theorem se_soS_6_1_4_3 {R : Type} (N M : Nat) (K : X → St → Option R) (m : Nat → Nat) : lpS_soS 8 N (M + 3) (stS_soS_6 1 4 3 m) K
    = K (.exit 2) (sts_soS_6 1 ((seaV sizB 7 1 m 2 4 3 : Nat) : Int) m) := by
  refine Eq.trans (sf_soS_6_1_4_3 N (M + 2) K m) ?_
  unfold seaV
  show _ = K _ (sts_soS_6 1 ((match gtB (sizB (m 29)) (sizB (m 22)) with | true => _ | false => _ : Nat) : Int) m)
  cases gtB (sizB (m 29)) (sizB (m 22))
  · exact se_soS_6_1_5_3 N M K m
  · exact se_soS_6_1_5_4 N M K m
theorem sf_soS_6_1_4_2 {R : Type} (N M : Nat) (K : X → St → Option R) (m : Nat → Nat) : lpS_soS 8 N (M + 1) (stS_soS_6 1 4 2 m) K
    = match gtB (sizB (m 29)) (sizB (m 15)) with | true => lpS_soS 8 N M (stS_soS_6 1 5 4 m) K | false => lpS_soS 8 N M (stS_soS_6 1 5 2 m) K := by
  kernel_rfl
theorem se_soS_6_1_4_2 {R : Type} (N M : Nat) (K : X → St → Option R) (m : Nat → Nat) : lpS_soS 8 N (M + 3) (stS_soS_6 1 4 2 m) K
    = K (.exit 2) (sts_soS_6 1 ((seaV sizB 7 1 m 2 4 2 : Nat) : Int) m) := by
  refine Eq.trans (sf_soS_6_1_4_2 N (M + 2) K m) ?_
  unfold seaV
  show _ = K _ (sts_soS_6 1 ((match gtB (sizB (m 29)) (sizB (m 15)) with | true => _ | false => _ : Nat) : Int) m)
  cases gtB (sizB (m 29)) (sizB (m 15))
  · exact se_soS_6_1_5_2 N M K m
  · exact se_soS_6_1_5_4 N M K m
theorem sf_soS_6_1_4_1 {R : Type} (N M : Nat) (K : X → St → Option R) (m : Nat → Nat) : lpS_soS 8 N (M + 1) (stS_soS_6 1 4 1 m) K
    = match gtB (sizB (m 29)) (sizB (m 8)) with | true => lpS_soS 8 N M (stS_soS_6 1 5 4 m) K | false => lpS_soS 8 N M (stS_soS_6 1 5 1 m) K := by
  kernel_rfl
theorem se_soS_6_1_4_1 {R : Type} (N M : Nat) (K : X → St → Option R) (m : Nat → Nat) : lpS_soS 8 N (M + 3) (stS_soS_6 1 4 1 m) K
    = K (.exit 2) (sts_soS_6 1 ((seaV sizB 7 1 m 2 4 1 : Nat) : Int) m) := by
  refine Eq.trans (sf_soS_6_1_4_1 N (M + 2) K m) ?_
  unfold seaV
  show _ = K _ (sts_soS_6 1 ((match gtB (sizB (m 29)) (sizB (m 8)) with | true => _ | false => _ : Nat) : Int) m)
  cases gtB (sizB (m 29)) (sizB (m 8))
  · exact se_soS_6_1_5_1 N M K m
  · exact se_soS_6_1_5_4 N M K m
theorem sf_soS_6_1_3_2 {R : Type} (N M : Nat) (K : X → St → Option R) (m : Nat → Nat) : lpS_soS 8 N (M + 1) (stS_soS_6 1 3 2 m) K
    = match gtB (sizB (m 22)) (sizB (m 15)) with | true => lpS_soS 8 N M (stS_soS_6 1 4 3 m) K | false => lpS_soS 8 N M (stS_soS_6 1 4 2 m) K := by
  kernel_rfl
theorem se_soS_6_1_3_2 {R : Type} (N M : Nat) (K : X → St → Option R) (m : Nat → Nat) : lpS_soS 8 N (M + 4) (stS_soS_6 1 3 2 m) K
    = K (.exit 2) (sts_soS_6 1 ((seaV sizB 7 1 m 3 3 2 : Nat) : Int) m) := by
  refine Eq.trans (sf_soS_6_1_3_2 N (M + 3) K m) ?_
  unfold seaV
  show _ = K _ (sts_soS_6 1 ((match gtB (sizB (m 22)) (sizB (m 15)) with | true => _ | false => _ : Nat) : Int) m)
  cases gtB (sizB (m 22)) (sizB (m 15))
  · exact se_soS_6_1_4_2 N M K m
  · exact se_soS_6_1_4_3 N M K m
theorem sf_soS_6_1_3_1 {R : Type} (N M : Nat) (K : X → St → Option R) (m : Nat → Nat) : lpS_soS 8 N (M + 1) (stS_soS_6 1 3 1 m) K
    = match gtB (sizB (m 22)) (sizB (m 8)) with | true => lpS_soS 8 N M (stS_soS_6 1 4 3 m) K | false => lpS_soS 8 N M (stS_soS_6 1 4 1 m) K := by
  kernel_rfl
theorem se_soS_6_1_3_1 {R : Type} (N M : Nat) (K : X → St → Option R) (m : Nat → Nat) : lpS_soS 8 N (M + 4) (stS_soS_6 1 3 1 m) K
    = K (.exit 2) (sts_soS_6 1 ((seaV sizB 7 1 m 3 3 1 : Nat) : Int) m) := by
  refine Eq.trans (sf_soS_6_1_3_1 N (M + 3) K m) ?_
  unfold seaV
  show _ = K _ (sts_soS_6 1 ((match gtB (sizB (m 22)) (sizB (m 8)) with | true => _ | false => _ : Nat) : Int) m)
  cases gtB (sizB (m 22)) (sizB (m 8))
  · exact se_soS_6_1_4_1 N M K m
  · exact se_soS_6_1_4_3 N M K m
theorem sf_soS_6_1_2_1 {R : Type} (N M : Nat) (K : X → St → Option R) (m : Nat → Nat) : lpS_soS 8 N (M + 1) (stS_soS_6 1 2 1 m) K
    = match gtB (sizB (m 15)) (sizB (m 8)) with | true => lpS_soS 8 N M (stS_soS_6 1 3 2 m) K | false => lpS_soS 8 N M (stS_soS_6 1 3 1 m) K := by
  kernel_rfl
theorem se_soS_6_1_2_1 {R : Type} (N M : Nat) (K : X → St → Option R) (m : Nat → Nat) : lpS_soS 8 N (M + 5) (stS_soS_6 1 2 1 m) K
    = K (.exit 2) (sts_soS_6 1 ((seaV sizB 7 1 m 4 2 1 : Nat) : Int) m) := by
  refine Eq.trans (sf_soS_6_1_2_1 N (M + 4) K m) ?_
  unfold seaV
  show _ = K _ (sts_soS_6 1 ((match gtB (sizB (m 15)) (sizB (m 8)) with | true => _ | false => _ : Nat) : Int) m)
  cases gtB (sizB (m 15)) (sizB (m 8))
  · exact se_soS_6_1_3_1 N M K m
  · exact se_soS_6_1_3_2 N M K m
theorem sx_soS_6_1_1 {R : Type} (N M : Nat) (K : X → St → Option R) (m : Nat → Nat) : ktS_soS 8 N (bk_soS 8 N M K) (.exit 2) (sts_soS_6 1 1 m)
    = match eqB (m 8) 0 with | true => K .ret (stR_soS_6 (swapM 7 1 1 m)) | false => lpE_soS 8 N N (stE_soS_6 1 2 (swapM 7 1 1 m)) (ktE_soS 8 N (bk_soS 8 N M K)) := by
  kernel_rfl
theorem sx_soS_6_1_2 {R : Type} (N M : Nat) (K : X → St → Option R) (m : Nat → Nat) : ktS_soS 8 N (bk_soS 8 N M K) (.exit 2) (sts_soS_6 1 2 m)
    = match eqB (m 15) 0 with | true => K .ret (stR_soS_6 (swapM 7 1 2 m)) | false => lpE_soS 8 N N (stE_soS_6 1 2 (swapM 7 1 2 m)) (ktE_soS 8 N (bk_soS 8 N M K)) := by
  kernel_rfl
theorem sx_soS_6_1_3 {R : Type} (N M : Nat) (K : X → St → Option R) (m : Nat → Nat) : ktS_soS 8 N (bk_soS 8 N M K) (.exit 2) (sts_soS_6 1 3 m)
    = match eqB (m 22) 0 with | true => K .ret (stR_soS_6 (swapM 7 1 3 m)) | false => lpE_soS 8 N N (stE_soS_6 1 2 (swapM 7 1 3 m)) (ktE_soS 8 N (bk_soS 8 N M K)) := by
  kernel_rfl
theorem sx_soS_6_1_4 {R : Type} (N M : Nat) (K : X → St → Option R) (m : Nat → Nat) : ktS_soS 8 N (bk_soS 8 N M K) (.exit 2) (sts_soS_6 1 4 m)
    = match eqB (m 29) 0 with | true => K .ret (stR_soS_6 (swapM 7 1 4 m)) | false => lpE_soS 8 N N (stE_soS_6 1 2 (swapM 7 1 4 m)) (ktE_soS 8 N (bk_soS 8 N M K)) := by
  kernel_rfl
theorem sx_soS_6_1_5 {R : Type} (N M : Nat) (K : X → St → Option R) (m : Nat → Nat) : ktS_soS 8 N (bk_soS 8 N M K) (.exit 2) (sts_soS_6 1 5 m)
    = match eqB (m 36) 0 with | true => K .ret (stR_soS_6 (swapM 7 1 5 m)) | false => lpE_soS 8 N N (stE_soS_6 1 2 (swapM 7 1 5 m)) (ktE_soS 8 N (bk_soS 8 N M K)) := by
  kernel_rfl
theorem el_soS_6_1 {R : Type} (N M : Nat) (K : X → St → Option R) (m : Nat → Nat) : lpE_soS 8 N (M + 5) (stE_soS_6 1 2 m) K
    = K (.exit 4) (ste_soS_6 1 (elimM 7 1 m)) := by
  kernel_rfl
theorem ex_soS_6_1 {R : Type} (N M : Nat) (K : X → St → Option R) (m : Nat → Nat) : ktE_soS 8 N (bk_soS 8 N M K) (.exit 4) (ste_soS_6 1 m)
    = lpO_soS 8 N M (stO_soS_6 2 m) K := by
  kernel_rfl
theorem head_soS_6_2 {R : Type} (N M : Nat) (K : X → St → Option R) (m : Nat → Nat) : lpO_soS 8 N (M + 1) (stO_soS_6 2 m) K
    = lpS_soS 8 N N (stS_soS_6 2 3 2 m) (ktS_soS 8 N (bk_soS 8 N M K)) := by
  kernel_rfl
theorem se_soS_6_2_6_5 {R : Type} (N M : Nat) (K : X → St → Option R) (m : Nat → Nat) : lpS_soS 8 N (M + 1) (stS_soS_6 2 6 5 m) K
    = K (.exit 2) (sts_soS_6 2 5 m) := by
  kernel_rfl
theorem se_soS_6_2_6_4 {R : Type} (N M : Nat) (K : X → St → Option R) (m : Nat → Nat) : lpS_soS 8 N (M + 1) (stS_soS_6 2 6 4 m) K
    = K (.exit 2) (sts_soS_6 2 4 m) := by
  kernel_rfl
theorem se_soS_6_2_6_3 {R : Type} (N M : Nat) (K : X → St → Option R) (m : Nat → Nat) : lpS_soS 8 N (M + 1) (stS_soS_6 2 6 3 m) K
    = K (.exit 2) (sts_soS_6 2 3 m) := by
  kernel_rfl
theorem se_soS_6_2_6_2 {R : Type} (N M : Nat) (K : X → St → Option R) (m : Nat → Nat) : lpS_soS 8 N (M + 1) (stS_soS_6 2 6 2 m) K
    = K (.exit 2) (sts_soS_6 2 2 m) := by
  kernel_rfl
theorem sf_soS_6_2_5_4 {R : Type} (N M : Nat) (K : X → St → Option R) (m : Nat → Nat) : lpS_soS 8 N (M + 1) (stS_soS_6 2 5 4 m) K
    = match gtB (sizB (m 37)) (sizB (m 30)) with | true => lpS_soS 8 N M (stS_soS_6 2 6 5 m) K | false => lpS_soS 8 N M (stS_soS_6 2 6 4 m) K := by
  kernel_rfl
theorem se_soS_6_2_5_4 {R : Type} (N M : Nat) (K : X → St → Option R) (m : Nat → Nat) : lpS_soS 8 N (M + 2) (stS_soS_6 2 5 4 m) K
    = K (.exit 2) (sts_soS_6 2 ((seaV sizB 7 2 m 1 5 4 : Nat) : Int) m) := by
  refine Eq.trans (sf_soS_6_2_5_4 N (M + 1) K m) ?_
  unfold seaV
  show _ = K _ (sts_soS_6 2 ((match gtB (sizB (m 37)) (sizB (m 30)) with | true => _ | false => _ : Nat) : Int) m)
  cases gtB (sizB (m 37)) (sizB (m 30))
  · exact se_soS_6_2_6_4 N M K m
  · exact se_soS_6_2_6_5 N M K m
theorem sf_soS_6_2_5_3 {R : Type} (N M : Nat) (K : X → St → Option R) (m : Nat → Nat) : lpS_soS 8 N (M + 1) (stS_soS_6 2 5 3 m) K
    = match gtB (sizB (m 37)) (sizB (m 23)) with | true => lpS_soS 8 N M (stS_soS_6 2 6 5 m) K | false => lpS_soS 8 N M (stS_soS_6 2 6 3 m) K := by
  kernel_rfl
theorem se_soS_6_2_5_3 {R : Type} (N M : Nat) (K : X → St → Option R) (m : Nat → Nat) : lpS_soS 8 N (M + 2) (stS_soS_6 2 5 3 m) K
    = K (.exit 2) (sts_soS_6 2 ((seaV sizB 7 2 m 1 5 3 : Nat) : Int) m) := by
  refine Eq.trans (sf_soS_6_2_5_3 N (M + 1) K m) ?_
  unfold seaV
  show _ = K _ (sts_soS_6 2 ((match gtB (sizB (m 37)) (sizB (m 23)) with | true => _ | false => _ : Nat) : Int) m)
  cases gtB (sizB (m 37)) (sizB (m 23))
  · exact se_soS_6_2_6_3 N M K m
  · exact se_soS_6_2_6_5 N M K m
theorem sf_soS_6_2_5_2 {R : Type} (N M : Nat) (K : X → St → Option R) (m : Nat → Nat) : lpS_soS 8 N (M + 1) (stS_soS_6 2 5 2 m) K
    = match gtB (sizB (m 37)) (sizB (m 16)) with | true => lpS_soS 8 N M (stS_soS_6 2 6 5 m) K | false => lpS_soS 8 N M (stS_soS_6 2 6 2 m) K := by
  kernel_rfl
theorem se_soS_6_2_5_2 {R : Type} (N M : Nat) (K : X → St → Option R) (m : Nat → Nat) : lpS_soS 8 N (M + 2) (stS_soS_6 2 5 2 m) K
    = K (.exit 2) (sts_soS_6 2 ((seaV sizB 7 2 m 1 5 2 : Nat) : Int) m) := by
  refine Eq.trans (sf_soS_6_2_5_2 N (M + 1) K m) ?_
  unfold seaV
  show _ = K _ (sts_soS_6 2 ((match gtB (sizB (m 37)) (sizB (m 16)) with | true => _ | false => _ : Nat) : Int) m)
  cases gtB (sizB (m 37)) (sizB (m 16))
  · exact se_soS_6_2_6_2 N M K m
  · exact se_soS_6_2_6_5 N M K m
theorem sf_soS_6_2_4_3 {R : Type} (N M : Nat) (K : X → St → Option R) (m : Nat → Nat) : lpS_soS 8 N (M + 1) (stS_soS_6 2 4 3 m) K
    = match gtB (sizB (m 30)) (sizB (m 23)) with | true => lpS_soS 8 N M (stS_soS_6 2 5 4 m) K | false => lpS_soS 8 N M (stS_soS_6 2 5 3 m) K := by
  kernel_rfl
theorem se_soS_6_2_4_3 {R : Type} (N M : Nat) (K : X → St → Option R) (m : Nat → Nat) : lpS_soS 8 N (M + 3) (stS_soS_6 2 4 3 m) K
    = K (.exit 2) (sts_soS_6 2 ((seaV sizB 7 2 m 2 4 3 : Nat) : Int) m) := by
  refine Eq.trans (sf_soS_6_2_4_3 N (M + 2) K m) ?_
  unfold seaV
  show _ = K _ (sts_soS_6 2 ((match gtB (sizB (m 30)) (sizB (m 23)) with | true => _ | false => _ : Nat) : Int) m)
  cases gtB (sizB (m 30)) (sizB (m 23))
  · exact se_soS_6_2_5_3 N M K m
  · exact se_soS_6_2_5_4 N M K m
theorem sf_soS_6_2_4_2 {R : Type} (N M : Nat) (K : X → St → Option R) (m : Nat → Nat) : lpS_soS 8 N (M + 1) (stS_soS_6 2 4 2 m) K
    = match gtB (sizB (m 30)) (sizB (m 16)) with | true => lpS_soS 8 N M (stS_soS_6 2 5 4 m) K | false => lpS_soS 8 N M (stS_soS_6 2 5 2 m) K := by
  kernel_rfl
theorem se_soS_6_2_4_2 {R : Type} (N M : Nat) (K : X → St → Option R) (m : Nat → Nat) : lpS_soS 8 N (M + 3) (stS_soS_6 2 4 2 m) K
    = K (.exit 2) (sts_soS_6 2 ((seaV sizB 7 2 m 2 4 2 : Nat) : Int) m) := by
  refine Eq.trans (sf_soS_6_2_4_2 N (M + 2) K m) ?_
  unfold seaV
  show _ = K _ (sts_soS_6 2 ((match gtB (sizB (m 30)) (sizB (m 16)) with | true => _ | false => _ : Nat) : Int) m)
  cases gtB (sizB (m 30)) (sizB (m 16))
  · exact se_soS_6_2_5_2 N M K m
  · exact se_soS_6_2_5_4 N M K m
theorem sf_soS_6_2_3_2 {R : Type} (N M : Nat) (K : X → St → Option R) (m : Nat → Nat) : lpS_soS 8 N (M + 1) (stS_soS_6 2 3 2 m) K
    = match gtB (sizB (m 23)) (sizB (m 16)) with | true => lpS_soS 8 N M (stS_soS_6 2 4 3 m) K | false => lpS_soS 8 N M (stS_soS_6 2 4 2 m) K := by
  kernel_rfl
theorem se_soS_6_2_3_2 {R : Type} (N M : Nat) (K : X → St → Option R) (m : Nat → Nat) : lpS_soS 8 N (M + 4) (stS_soS_6 2 3 2 m) K
    = K (.exit 2) (sts_soS_6 2 ((seaV sizB 7 2 m 3 3 2 : Nat) : Int) m) := by
  refine Eq.trans (sf_soS_6_2_3_2 N (M + 3) K m) ?_
  unfold seaV
  show _ = K _ (sts_soS_6 2 ((match gtB (sizB (m 23)) (sizB (m 16)) with | true => _ | false => _ : Nat) : Int) m)
  cases gtB (sizB (m 23)) (sizB (m 16))
  · exact se_soS_6_2_4_2 N M K m
  · exact se_soS_6_2_4_3 N M K m
theorem sx_soS_6_2_2 {R : Type} (N M : Nat) (K : X → St → Option R) (m : Nat → Nat) : ktS_soS 8 N (bk_soS 8 N M K) (.exit 2) (sts_soS_6 2 2 m)
    = match eqB (m 16) 0 with | true => K .ret (stR_soS_6 (swapM 7 2 2 m)) | false => lpE_soS 8 N N (stE_soS_6 2 3 (swapM 7 2 2 m)) (ktE_soS 8 N (bk_soS 8 N M K)) := by
  kernel_rfl
theorem sx_soS_6_2_3 {R : Type} (N M : Nat) (K : X → St → Option R) (m : Nat → Nat) : ktS_soS 8 N (bk_soS 8 N M K) (.exit 2) (sts_soS_6 2 3 m)
    = match eqB (m 23) 0 with | true => K .ret (stR_soS_6 (swapM 7 2 3 m)) | false => lpE_soS 8 N N (stE_soS_6 2 3 (swapM 7 2 3 m)) (ktE_soS 8 N (bk_soS 8 N M K)) := by
  kernel_rfl
theorem sx_soS_6_2_4 {R : Type} (N M : Nat) (K : X → St → Option R) (m : Nat → Nat) : ktS_soS 8 N (bk_soS 8 N M K) (.exit 2) (sts_soS_6 2 4 m)
    = match eqB (m 30) 0 with | true => K .ret (stR_soS_6 (swapM 7 2 4 m)) | false => lpE_soS 8 N N (stE_soS_6 2 3 (swapM 7 2 4 m)) (ktE_soS 8 N (bk_soS 8 N M K)) := by
  kernel_rfl
theorem sx_soS_6_2_5 {R : Type} (N M : Nat) (K : X → St → Option R) (m : Nat → Nat) : ktS_soS 8 N (bk_soS 8 N M K) (.exit 2) (sts_soS_6 2 5 m)
    = match eqB (m 37) 0 with | true => K .ret (stR_soS_6 (swapM 7 2 5 m)) | false => lpE_soS 8 N N (stE_soS_6 2 3 (swapM 7 2 5 m)) (ktE_soS 8 N (bk_soS 8 N M K)) := by
  kernel_rfl
theorem el_soS_6_2 {R : Type} (N M : Nat) (K : X → St → Option R) (m : Nat → Nat) : lpE_soS 8 N (M + 4) (stE_soS_6 2 3 m) K
    = K (.exit 4) (ste_soS_6 2 (elimM 7 2 m)) := by
  kernel_rfl
theorem ex_soS_6_2 {R : Type} (N M : Nat) (K : X → St → Option R) (m : Nat → Nat) : ktE_soS 8 N (bk_soS 8 N M K) (.exit 4) (ste_soS_6 2 m)
    = lpO_soS 8 N M (stO_soS_6 3 m) K := by
  kernel_rfl
theorem head_soS_6_3 {R : Type} (N M : Nat) (K : X → St → Option R) (m : Nat → Nat) : lpO_soS 8 N (M + 1) (stO_soS_6 3 m) K
    = lpS_soS 8 N N (stS_soS_6 3 4 3 m) (ktS_soS 8 N (bk_soS 8 N M K)) := by
  kernel_rfl
theorem se_soS_6_3_6_5 {R : Type} (N M : Nat) (K : X → St → Option R) (m : Nat → Nat) : lpS_soS 8 N (M + 1) (stS_soS_6 3 6 5 m) K
    = K (.exit 2) (sts_soS_6 3 5 m) := by
  kernel_rfl
theorem se_soS_6_3_6_4 {R : Type} (N M : Nat) (K : X → St → Option R) (m : Nat → Nat) : lpS_soS 8 N (M + 1) (stS_soS_6 3 6 4 m) K
    = K (.exit 2) (sts_soS_6 3 4 m) := by
  kernel_rfl
theorem se_soS_6_3_6_3 {R : Type} (N M : Nat) (K : X → St → Option R) (m : Nat → Nat) : lpS_soS 8 N (M + 1) (stS_soS_6 3 6 3 m) K
    = K (.exit 2) (sts_soS_6 3 3 m) := by
  kernel_rfl
theorem sf_soS_6_3_5_4 {R : Type} (N M : Nat) (K : X → St → Option R) (m : Nat → Nat) : lpS_soS 8 N (M + 1) (stS_soS_6 3 5 4 m) K
    = match gtB (sizB (m 38)) (sizB (m 31)) with | true => lpS_soS 8 N M (stS_soS_6 3 6 5 m) K | false => lpS_soS 8 N M (stS_soS_6 3 6 4 m) K := by
  kernel_rfl
theorem se_soS_6_3_5_4 {R : Type} (N M : Nat) (K : X → St → Option R) (m : Nat → Nat) : lpS_soS 8 N (M + 2) (stS_soS_6 3 5 4 m) K
    = K (.exit 2) (sts_soS_6 3 ((seaV sizB 7 3 m 1 5 4 : Nat) : Int) m) := by
  refine Eq.trans (sf_soS_6_3_5_4 N (M + 1) K m) ?_
  unfold seaV
  show _ = K _ (sts_soS_6 3 ((match gtB (sizB (m 38)) (sizB (m 31)) with | true => _ | false => _ : Nat) : Int) m)
  cases gtB (sizB (m 38)) (sizB (m 31))
  · exact se_soS_6_3_6_4 N M K m
  · exact se_soS_6_3_6_5 N M K m
theorem sf_soS_6_3_5_3 {R : Type} (N M : Nat) (K : X → St → Option R) (m : Nat → Nat) : lpS_soS 8 N (M + 1) (stS_soS_6 3 5 3 m) K
    = match gtB (sizB (m 38)) (sizB (m 24)) with | true => lpS_soS 8 N M (stS_soS_6 3 6 5 m) K | false => lpS_soS 8 N M (stS_soS_6 3 6 3 m) K := by
  kernel_rfl
theorem se_soS_6_3_5_3 {R : Type} (N M : Nat) (K : X → St → Option R) (m : Nat → Nat) : lpS_soS 8 N (M + 2) (stS_soS_6 3 5 3 m) K
    = K (.exit 2) (sts_soS_6 3 ((seaV sizB 7 3 m 1 5 3 : Nat) : Int) m) := by
  refine Eq.trans (sf_soS_6_3_5_3 N (M + 1) K m) ?_
  unfold seaV
  show _ = K _ (sts_soS_6 3 ((match gtB (sizB (m 38)) (sizB (m 24)) with | true => _ | false => _ : Nat) : Int) m)
  cases gtB (sizB (m 38)) (sizB (m 24))
  · exact se_soS_6_3_6_3 N M K m
  · exact se_soS_6_3_6_5 N M K m
theorem sf_soS_6_3_4_3 {R : Type} (N M : Nat) (K : X → St → Option R) (m : Nat → Nat) : lpS_soS 8 N (M + 1) (stS_soS_6 3 4 3 m) K
    = match gtB (sizB (m 31)) (sizB (m 24)) with | true => lpS_soS 8 N M (stS_soS_6 3 5 4 m) K | false => lpS_soS 8 N M (stS_soS_6 3 5 3 m) K := by
  kernel_rfl
theorem se_soS_6_3_4_3 {R : Type} (N M : Nat) (K : X → St → Option R) (m : Nat → Nat) : lpS_soS 8 N (M + 3) (stS_soS_6 3 4 3 m) K
    = K (.exit 2) (sts_soS_6 3 ((seaV sizB 7 3 m 2 4 3 : Nat) : Int) m) := by
  refine Eq.trans (sf_soS_6_3_4_3 N (M + 2) K m) ?_
  unfold seaV
  show _ = K _ (sts_soS_6 3 ((match gtB (sizB (m 31)) (sizB (m 24)) with | true => _ | false => _ : Nat) : Int) m)
  cases gtB (sizB (m 31)) (sizB (m 24))
  · exact se_soS_6_3_5_3 N M K m
  · exact se_soS_6_3_5_4 N M K m
theorem sx_soS_6_3_3 {R : Type} (N M : Nat) (K : X → St → Option R) (m : Nat → Nat) : ktS_soS 8 N (bk_soS 8 N M K) (.exit 2) (sts_soS_6 3 3 m)
    = match eqB (m 24) 0 with | true => K .ret (stR_soS_6 (swapM 7 3 3 m)) | false => lpE_soS 8 N N (stE_soS_6 3 4 (swapM 7 3 3 m)) (ktE_soS 8 N (bk_soS 8 N M K)) := by
  kernel_rfl
theorem sx_soS_6_3_4 {R : Type} (N M : Nat) (K : X → St → Option R) (m : Nat → Nat) : ktS_soS 8 N (bk_soS 8 N M K) (.exit 2) (sts_soS_6 3 4 m)
    = match eqB (m 31) 0 with | true => K .ret (stR_soS_6 (swapM 7 3 4 m)) | false => lpE_soS 8 N N (stE_soS_6 3 4 (swapM 7 3 4 m)) (ktE_soS 8 N (bk_soS 8 N M K)) := by
  kernel_rfl
theorem sx_soS_6_3_5 {R : Type} (N M : Nat) (K : X → St → Option R) (m : Nat → Nat) : ktS_soS 8 N (bk_soS 8 N M K) (.exit 2) (sts_soS_6 3 5 m)
    = match eqB (m 38) 0 with | true => K .ret (stR_soS_6 (swapM 7 3 5 m)) | false => lpE_soS 8 N N (stE_soS_6 3 4 (swapM 7 3 5 m)) (ktE_soS 8 N (bk_soS 8 N M K)) := by
  kernel_rfl
theorem el_soS_6_3 {R : Type} (N M : Nat) (K : X → St → Option R) (m : Nat → Nat) : lpE_soS 8 N (M + 3) (stE_soS_6 3 4 m) K
    = K (.exit 4) (ste_soS_6 3 (elimM 7 3 m)) := by
  kernel_rfl
theorem ex_soS_6_3 {R : Type} (N M : Nat) (K : X → St → Option R) (m : Nat → Nat) : ktE_soS 8 N (bk_soS 8 N M K) (.exit 4) (ste_soS_6 3 m)
    = lpO_soS 8 N M (stO_soS_6 4 m) K := by
  kernel_rfl
theorem head_soS_6_4 {R : Type} (N M : Nat) (K : X → St → Option R) (m : Nat → Nat) : lpO_soS 8 N (M + 1) (stO_soS_6 4 m) K
    = lpS_soS 8 N N (stS_soS_6 4 5 4 m) (ktS_soS 8 N (bk_soS 8 N M K)) := by
  kernel_rfl
theorem se_soS_6_4_6_5 {R : Type} (N M : Nat) (K : X → St → Option R) (m : Nat → Nat) : lpS_soS 8 N (M + 1) (stS_soS_6 4 6 5 m) K
    = K (.exit 2) (sts_soS_6 4 5 m) := by
  kernel_rfl
theorem se_soS_6_4_6_4 {R : Type} (N M : Nat) (K : X → St → Option R) (m : Nat → Nat) : lpS_soS 8 N (M + 1) (stS_soS_6 4 6 4 m) K
    = K (.exit 2) (sts_soS_6 4 4 m) := by
  kernel_rfl
theorem sf_soS_6_4_5_4 {R : Type} (N M : Nat) (K : X → St → Option R) (m : Nat → Nat) : lpS_soS 8 N (M + 1) (stS_soS_6 4 5 4 m) K
    = match gtB (sizB (m 39)) (sizB (m 32)) with | true => lpS_soS 8 N M (stS_soS_6 4 6 5 m) K | false => lpS_soS 8 N M (stS_soS_6 4 6 4 m) K := by
  kernel_rfl
theorem se_soS_6_4_5_4 {R : Type} (N M : Nat) (K : X → St → Option R) (m : Nat → Nat) : lpS_soS 8 N (M + 2) (stS_soS_6 4 5 4 m) K
    = K (.exit 2) (sts_soS_6 4 ((seaV sizB 7 4 m 1 5 4 : Nat) : Int) m) := by
  refine Eq.trans (sf_soS_6_4_5_4 N (M + 1) K m) ?_
  unfold seaV
  show _ = K _ (sts_soS_6 4 ((match gtB (sizB (m 39)) (sizB (m 32)) with | true => _ | false => _ : Nat) : Int) m)
  cases gtB (sizB (m 39)) (sizB (m 32))
  · exact se_soS_6_4_6_4 N M K m
  · exact se_soS_6_4_6_5 N M K m
theorem sx_soS_6_4_4 {R : Type} (N M : Nat) (K : X → St → Option R) (m : Nat → Nat) : ktS_soS 8 N (bk_soS 8 N M K) (.exit 2) (sts_soS_6 4 4 m)
    = match eqB (m 32) 0 with | true => K .ret (stR_soS_6 (swapM 7 4 4 m)) | false => lpE_soS 8 N N (stE_soS_6 4 5 (swapM 7 4 4 m)) (ktE_soS 8 N (bk_soS 8 N M K)) := by
  kernel_rfl
theorem sx_soS_6_4_5 {R : Type} (N M : Nat) (K : X → St → Option R) (m : Nat → Nat) : ktS_soS 8 N (bk_soS 8 N M K) (.exit 2) (sts_soS_6 4 5 m)
    = match eqB (m 39) 0 with | true => K .ret (stR_soS_6 (swapM 7 4 5 m)) | false => lpE_soS 8 N N (stE_soS_6 4 5 (swapM 7 4 5 m)) (ktE_soS 8 N (bk_soS 8 N M K)) := by
  kernel_rfl
theorem el_soS_6_4 {R : Type} (N M : Nat) (K : X → St → Option R) (m : Nat → Nat) : lpE_soS 8 N (M + 2) (stE_soS_6 4 5 m) K
    = K (.exit 4) (ste_soS_6 4 (elimM 7 4 m)) := by
  kernel_rfl
theorem ex_soS_6_4 {R : Type} (N M : Nat) (K : X → St → Option R) (m : Nat → Nat) : ktE_soS 8 N (bk_soS 8 N M K) (.exit 4) (ste_soS_6 4 m)
    = lpO_soS 8 N M (stO_soS_6 5 m) K := by
  kernel_rfl
theorem head_soS_6_5 {R : Type} (N M : Nat) (K : X → St → Option R) (m : Nat → Nat) : lpO_soS 8 N (M + 1) (stO_soS_6 5 m) K
    = lpS_soS 8 N N (stS_soS_6 5 6 5 m) (ktS_soS 8 N (bk_soS 8 N M K)) := by
  kernel_rfl
theorem se_soS_6_5_6_5 {R : Type} (N M : Nat) (K : X → St → Option R) (m : Nat → Nat) : lpS_soS 8 N (M + 1) (stS_soS_6 5 6 5 m) K
    = K (.exit 2) (sts_soS_6 5 5 m) := by
  kernel_rfl
theorem sx_soS_6_5_5 {R : Type} (N M : Nat) (K : X → St → Option R) (m : Nat → Nat) : ktS_soS 8 N (bk_soS 8 N M K) (.exit 2) (sts_soS_6 5 5 m)
    = match eqB (m 40) 0 with | true => K .ret (stR_soS_6 (swapM 7 5 5 m)) | false => lpE_soS 8 N N (stE_soS_6 5 6 (swapM 7 5 5 m)) (ktE_soS 8 N (bk_soS 8 N M K)) := by
  kernel_rfl
theorem el_soS_6_5 {R : Type} (N M : Nat) (K : X → St → Option R) (m : Nat → Nat) : lpE_soS 8 N (M + 1) (stE_soS_6 5 6 m) K
    = K (.exit 4) (ste_soS_6 5 (elimM 7 5 m)) := by
  kernel_rfl
theorem ex_soS_6_5 {R : Type} (N M : Nat) (K : X → St → Option R) (m : Nat → Nat) : ktE_soS 8 N (bk_soS 8 N M K) (.exit 4) (ste_soS_6 5 m)
    = lpO_soS 8 N M (stO_soS_6 6 m) K := by
  kernel_rfl
theorem head_soS_6_6 {R : Type} (N M : Nat) (K : X → St → Option R) (m : Nat → Nat) : lpO_soS 8 N (M + 1) (stO_soS_6 6 m) K
    = K (.exit 0) (stX_soS_6 m) := by
  kernel_rfl
theorem lo_soS_6_6 {R : Type} (M : Nat) (K : X → St → Option R) (Z : Option R) (hZ : ∀ m, K .ret (stR_soS_6 m) = Z) (m : Nat → Nat) : lpO_soS 8 9 (M + 1) (stO_soS_6 6 m) K
    = match sol sizB 7 6 0 6 m with | some m => K (.exit 0) (stX_soS_6 m) | none => Z := by
  exact head_soS_6_6 9 M K m
theorem lo_soS_6_5 {R : Type} (M : Nat) (K : X → St → Option R) (Z : Option R) (hZ : ∀ m, K .ret (stR_soS_6 m) = Z) (m : Nat → Nat) : lpO_soS 8 9 (M + 2) (stO_soS_6 5 m) K
    = match sol sizB 7 6 1 5 m with | some m => K (.exit 0) (stX_soS_6 m) | none => Z := by
  refine Eq.trans (head_soS_6_5 9 (M + 1) K m) ?_
  refine Eq.trans (se_soS_6_5_6_5 9 8 _ m) ?_
  refine Eq.trans (sx_soS_6_5_5 9 (M + 1) K m) ?_
  show _ = match (match eqB (m 40) 0 with | true => none | false => _ : Option (Nat → Nat)) with | some m => _ | none => _
  cases eqB (m 40) 0 with
  | true => exact hZ _
  | false => exact Eq.trans (el_soS_6_5 9 8 _ (swapM 7 5 5 m)) (Eq.trans (ex_soS_6_5 9 (M + 1) K _) (lo_soS_6_6 M K Z hZ _))
theorem lo_soS_6_4 {R : Type} (M : Nat) (K : X → St → Option R) (Z : Option R) (hZ : ∀ m, K .ret (stR_soS_6 m) = Z) (m : Nat → Nat) : lpO_soS 8 9 (M + 3) (stO_soS_6 4 m) K
    = match sol sizB 7 6 2 4 m with | some m => K (.exit 0) (stX_soS_6 m) | none => Z := by
  refine Eq.trans (head_soS_6_4 9 (M + 2) K m) ?_
  refine Eq.trans (se_soS_6_4_5_4 9 7 _ m) ?_
  have hlt : seaV sizB 7 4 m 1 5 4 < 6 := seaV_le _ _ _ rfl (by decide)
  have hge : 4 ≤ seaV sizB 7 4 m 1 5 4 := seaV_ge _ _ _ (by decide) (by decide)
  unfold sol bestM
  generalize hs : seaV sizB 7 4 m 1 5 4 = a at hlt hge ⊢
  have hc : a = 4 ∨ a = 5 := by omega
  rcases hc with rfl | rfl
  · refine Eq.trans (sx_soS_6_4_4 9 (M + 2) K m) ?_
    show _ = match (match eqB (m 32) 0 with | true => none | false => _ : Option (Nat → Nat)) with | some m => _ | none => _
    cases eqB (m 32) 0 with
    | true => exact hZ _
    | false => exact Eq.trans (el_soS_6_4 9 7 _ (swapM 7 4 4 m)) (Eq.trans (ex_soS_6_4 9 (M + 2) K _) (lo_soS_6_5 M K Z hZ _))
  · refine Eq.trans (sx_soS_6_4_5 9 (M + 2) K m) ?_
    show _ = match (match eqB (m 39) 0 with | true => none | false => _ : Option (Nat → Nat)) with | some m => _ | none => _
    cases eqB (m 39) 0 with
    | true => exact hZ _
    | false => exact Eq.trans (el_soS_6_4 9 7 _ (swapM 7 4 5 m)) (Eq.trans (ex_soS_6_4 9 (M + 2) K _) (lo_soS_6_5 M K Z hZ _))
theorem lo_soS_6_3 {R : Type} (M : Nat) (K : X → St → Option R) (Z : Option R) (hZ : ∀ m, K .ret (stR_soS_6 m) = Z) (m : Nat → Nat) : lpO_soS 8 9 (M + 4) (stO_soS_6 3 m) K
    = match sol sizB 7 6 3 3 m with | some m => K (.exit 0) (stX_soS_6 m) | none => Z := by
  refine Eq.trans (head_soS_6_3 9 (M + 3) K m) ?_
  refine Eq.trans (se_soS_6_3_4_3 9 6 _ m) ?_
  have hlt : seaV sizB 7 3 m 2 4 3 < 6 := seaV_le _ _ _ rfl (by decide)
  have hge : 3 ≤ seaV sizB 7 3 m 2 4 3 := seaV_ge _ _ _ (by decide) (by decide)
  unfold sol bestM
  generalize hs : seaV sizB 7 3 m 2 4 3 = a at hlt hge ⊢
  have hc : a = 3 ∨ a = 4 ∨ a = 5 := by omega
  rcases hc with rfl | rfl | rfl
  · refine Eq.trans (sx_soS_6_3_3 9 (M + 3) K m) ?_
    show _ = match (match eqB (m 24) 0 with | true => none | false => _ : Option (Nat → Nat)) with | some m => _ | none => _
    cases eqB (m 24) 0 with
    | true => exact hZ _
    | false => exact Eq.trans (el_soS_6_3 9 6 _ (swapM 7 3 3 m)) (Eq.trans (ex_soS_6_3 9 (M + 3) K _) (lo_soS_6_4 M K Z hZ _))
  · refine Eq.trans (sx_soS_6_3_4 9 (M + 3) K m) ?_
    show _ = match (match eqB (m 31) 0 with | true => none | false => _ : Option (Nat → Nat)) with | some m => _ | none => _
    cases eqB (m 31) 0 with
    | true => exact hZ _
    | false => exact Eq.trans (el_soS_6_3 9 6 _ (swapM 7 3 4 m)) (Eq.trans (ex_soS_6_3 9 (M + 3) K _) (lo_soS_6_4 M K Z hZ _))
  · refine Eq.trans (sx_soS_6_3_5 9 (M + 3) K m) ?_
    show _ = match (match eqB (m 38) 0 with | true => none | false => _ : Option (Nat → Nat)) with | some m => _ | none => _
    cases eqB (m 38) 0 with
    | true => exact hZ _
    | false => exact Eq.trans (el_soS_6_3 9 6 _ (swapM 7 3 5 m)) (Eq.trans (ex_soS_6_3 9 (M + 3) K _) (lo_soS_6_4 M K Z hZ _))
theorem lo_soS_6_2 {R : Type} (M : Nat) (K : X → St → Option R) (Z : Option R) (hZ : ∀ m, K .ret (stR_soS_6 m) = Z) (m : Nat → Nat) : lpO_soS 8 9 (M + 5) (stO_soS_6 2 m) K
    = match sol sizB 7 6 4 2 m with | some m => K (.exit 0) (stX_soS_6 m) | none => Z := by
  refine Eq.trans (head_soS_6_2 9 (M + 4) K m) ?_
  refine Eq.trans (se_soS_6_2_3_2 9 5 _ m) ?_
  have hlt : seaV sizB 7 2 m 3 3 2 < 6 := seaV_le _ _ _ rfl (by decide)
  have hge : 2 ≤ seaV sizB 7 2 m 3 3 2 := seaV_ge _ _ _ (by decide) (by decide)
  unfold sol bestM
  generalize hs : seaV sizB 7 2 m 3 3 2 = a at hlt hge ⊢
  have hc : a = 2 ∨ a = 3 ∨ a = 4 ∨ a = 5 := by omega
  rcases hc with rfl | rfl | rfl | rfl
  · refine Eq.trans (sx_soS_6_2_2 9 (M + 4) K m) ?_
    show _ = match (match eqB (m 16) 0 with | true => none | false => _ : Option (Nat → Nat)) with | some m => _ | none => _
    cases eqB (m 16) 0 with
    | true => exact hZ _
    | false => exact Eq.trans (el_soS_6_2 9 5 _ (swapM 7 2 2 m)) (Eq.trans (ex_soS_6_2 9 (M + 4) K _) (lo_soS_6_3 M K Z hZ _))
  · refine Eq.trans (sx_soS_6_2_3 9 (M + 4) K m) ?_
    show _ = match (match eqB (m 23) 0 with | true => none | false => _ : Option (Nat → Nat)) with | some m => _ | none => _
    cases eqB (m 23) 0 with
    | true => exact hZ _
    | false => exact Eq.trans (el_soS_6_2 9 5 _ (swapM 7 2 3 m)) (Eq.trans (ex_soS_6_2 9 (M + 4) K _) (lo_soS_6_3 M K Z hZ _))
  · refine Eq.trans (sx_soS_6_2_4 9 (M + 4) K m) ?_
    show _ = match (match eqB (m 30) 0 with | true => none | false => _ : Option (Nat → Nat)) with | some m => _ | none => _
    cases eqB (m 30) 0 with
    | true => exact hZ _
    | false => exact Eq.trans (el_soS_6_2 9 5 _ (swapM 7 2 4 m)) (Eq.trans (ex_soS_6_2 9 (M + 4) K _) (lo_soS_6_3 M K Z hZ _))
  · refine Eq.trans (sx_soS_6_2_5 9 (M + 4) K m) ?_
    show _ = match (match eqB (m 37) 0 with | true => none | false => _ : Option (Nat → Nat)) with | some m => _ | none => _
    cases eqB (m 37) 0 with
    | true => exact hZ _
    | false => exact Eq.trans (el_soS_6_2 9 5 _ (swapM 7 2 5 m)) (Eq.trans (ex_soS_6_2 9 (M + 4) K _) (lo_soS_6_3 M K Z hZ _))
theorem lo_soS_6_1 {R : Type} (M : Nat) (K : X → St → Option R) (Z : Option R) (hZ : ∀ m, K .ret (stR_soS_6 m) = Z) (m : Nat → Nat) : lpO_soS 8 9 (M + 6) (stO_soS_6 1 m) K
    = match sol sizB 7 6 5 1 m with | some m => K (.exit 0) (stX_soS_6 m) | none => Z := by
  refine Eq.trans (head_soS_6_1 9 (M + 5) K m) ?_
  refine Eq.trans (se_soS_6_1_2_1 9 4 _ m) ?_
  have hlt : seaV sizB 7 1 m 4 2 1 < 6 := seaV_le _ _ _ rfl (by decide)
  have hge : 1 ≤ seaV sizB 7 1 m 4 2 1 := seaV_ge _ _ _ (by decide) (by decide)
  unfold sol bestM
  generalize hs : seaV sizB 7 1 m 4 2 1 = a at hlt hge ⊢
  have hc : a = 1 ∨ a = 2 ∨ a = 3 ∨ a = 4 ∨ a = 5 := by omega
  rcases hc with rfl | rfl | rfl | rfl | rfl
  · refine Eq.trans (sx_soS_6_1_1 9 (M + 5) K m) ?_
    show _ = match (match eqB (m 8) 0 with | true => none | false => _ : Option (Nat → Nat)) with | some m => _ | none => _
    cases eqB (m 8) 0 with
    | true => exact hZ _
    | false => exact Eq.trans (el_soS_6_1 9 4 _ (swapM 7 1 1 m)) (Eq.trans (ex_soS_6_1 9 (M + 5) K _) (lo_soS_6_2 M K Z hZ _))
  · refine Eq.trans (sx_soS_6_1_2 9 (M + 5) K m) ?_
    show _ = match (match eqB (m 15) 0 with | true => none | false => _ : Option (Nat → Nat)) with | some m => _ | none => _
    cases eqB (m 15) 0 with
    | true => exact hZ _
    | false => exact Eq.trans (el_soS_6_1 9 4 _ (swapM 7 1 2 m)) (Eq.trans (ex_soS_6_1 9 (M + 5) K _) (lo_soS_6_2 M K Z hZ _))
  · refine Eq.trans (sx_soS_6_1_3 9 (M + 5) K m) ?_
    show _ = match (match eqB (m 22) 0 with | true => none | false => _ : Option (Nat → Nat)) with | some m => _ | none => _
    cases eqB (m 22) 0 with
    | true => exact hZ _
    | false => exact Eq.trans (el_soS_6_1 9 4 _ (swapM 7 1 3 m)) (Eq.trans (ex_soS_6_1 9 (M + 5) K _) (lo_soS_6_2 M K Z hZ _))
  · refine Eq.trans (sx_soS_6_1_4 9 (M + 5) K m) ?_
    show _ = match (match eqB (m 29) 0 with | true => none | false => _ : Option (Nat → Nat)) with | some m => _ | none => _
    cases eqB (m 29) 0 with
    | true => exact hZ _
    | false => exact Eq.trans (el_soS_6_1 9 4 _ (swapM 7 1 4 m)) (Eq.trans (ex_soS_6_1 9 (M + 5) K _) (lo_soS_6_2 M K Z hZ _))
  · refine Eq.trans (sx_soS_6_1_5 9 (M + 5) K m) ?_
    show _ = match (match eqB (m 36) 0 with | true => none | false => _ : Option (Nat → Nat)) with | some m => _ | none => _
    cases eqB (m 36) 0 with
    | true => exact hZ _
    | false => exact Eq.trans (el_soS_6_1 9 4 _ (swapM 7 1 5 m)) (Eq.trans (ex_soS_6_1 9 (M + 5) K _) (lo_soS_6_2 M K Z hZ _))
theorem lo_soS_6_0 {R : Type} (M : Nat) (K : X → St → Option R) (Z : Option R) (hZ : ∀ m, K .ret (stR_soS_6 m) = Z) (m : Nat → Nat) : lpO_soS 8 9 (M + 7) (stO_soS_6 0 m) K
    = match sol sizB 7 6 6 0 m with | some m => K (.exit 0) (stX_soS_6 m) | none => Z := by
  refine Eq.trans (head_soS_6_0 9 (M + 6) K m) ?_
  refine Eq.trans (se_soS_6_0_1_0 9 3 _ m) ?_
  have hlt : seaV sizB 7 0 m 5 1 0 < 6 := seaV_le _ _ _ rfl (by decide)
  have hge : 0 ≤ seaV sizB 7 0 m 5 1 0 := seaV_ge _ _ _ (by decide) (by decide)
  unfold sol bestM
  generalize hs : seaV sizB 7 0 m 5 1 0 = a at hlt hge ⊢
  have hc : a = 0 ∨ a = 1 ∨ a = 2 ∨ a = 3 ∨ a = 4 ∨ a = 5 := by omega
  rcases hc with rfl | rfl | rfl | rfl | rfl | rfl
  · refine Eq.trans (sx_soS_6_0_0 9 (M + 6) K m) ?_
    show _ = match (match eqB (m 0) 0 with | true => none | false => _ : Option (Nat → Nat)) with | some m => _ | none => _
    cases eqB (m 0) 0 with
    | true => exact hZ _
    | false => exact Eq.trans (el_soS_6_0 9 3 _ (swapM 7 0 0 m)) (Eq.trans (ex_soS_6_0 9 (M + 6) K _) (lo_soS_6_1 M K Z hZ _))
  · refine Eq.trans (sx_soS_6_0_1 9 (M + 6) K m) ?_
    show _ = match (match eqB (m 7) 0 with | true => none | false => _ : Option (Nat → Nat)) with | some m => _ | none => _
    cases eqB (m 7) 0 with
    | true => exact hZ _
    | false => exact Eq.trans (el_soS_6_0 9 3 _ (swapM 7 0 1 m)) (Eq.trans (ex_soS_6_0 9 (M + 6) K _) (lo_soS_6_1 M K Z hZ _))
  · refine Eq.trans (sx_soS_6_0_2 9 (M + 6) K m) ?_
    show _ = match (match eqB (m 14) 0 with | true => none | false => _ : Option (Nat → Nat)) with | some m => _ | none => _
    cases eqB (m 14) 0 with
    | true => exact hZ _
    | false => exact Eq.trans (el_soS_6_0 9 3 _ (swapM 7 0 2 m)) (Eq.trans (ex_soS_6_0 9 (M + 6) K _) (lo_soS_6_1 M K Z hZ _))
  · refine Eq.trans (sx_soS_6_0_3 9 (M + 6) K m) ?_
    show _ = match (match eqB (m 21) 0 with | true => none | false => _ : Option (Nat → Nat)) with | some m => _ | none => _
    cases eqB (m 21) 0 with
    | true => exact hZ _
    | false => exact Eq.trans (el_soS_6_0 9 3 _ (swapM 7 0 3 m)) (Eq.trans (ex_soS_6_0 9 (M + 6) K _) (lo_soS_6_1 M K Z hZ _))
  · refine Eq.trans (sx_soS_6_0_4 9 (M + 6) K m) ?_
    show _ = match (match eqB (m 28) 0 with | true => none | false => _ : Option (Nat → Nat)) with | some m => _ | none => _
    cases eqB (m 28) 0 with
    | true => exact hZ _
    | false => exact Eq.trans (el_soS_6_0 9 3 _ (swapM 7 0 4 m)) (Eq.trans (ex_soS_6_0 9 (M + 6) K _) (lo_soS_6_1 M K Z hZ _))
  · refine Eq.trans (sx_soS_6_0_5 9 (M + 6) K m) ?_
    show _ = match (match eqB (m 35) 0 with | true => none | false => _ : Option (Nat → Nat)) with | some m => _ | none => _
    cases eqB (m 35) 0 with
    | true => exact hZ _
    | false => exact Eq.trans (el_soS_6_0 9 3 _ (swapM 7 0 5 m)) (Eq.trans (ex_soS_6_0 9 (M + 6) K _) (lo_soS_6_1 M K Z hZ _))
theorem run_soS_6 (N : Nat) (m : Nat → Nat) : runM ty tab_soS an_soS N Try.f12 [.sl 0 0 6, .sl 1 0 6] (hSol 6 m)
    = lpO_soS 8 N N (stO_soS_6 0 m) (ktO_soS 8 N (kEnd Try.f12 8)) := by
  kernel_rfl
theorem end_soS_6 (N : Nat) (m : Nat → Nat) : ktO_soS 8 N (kEnd Try.f12 8) (.exit 0) (stX_soS_6 m)
    = some (.tup [.a (.sl 8 0 6), .a (.bool true)], [.gone, .gone, .gone, .gone, .gone, .gone, .gone, .gone, .at true (.fl .f32 (bkL 7 6 m 6))]) := by
  kernel_rfl
theorem endr_soS_6 (N : Nat) (m : Nat → Nat) : ktO_soS 8 N (kEnd Try.f12 8) .ret (stR_soS_6 m)
    = some (.tup [.a (.nil), .a (.bool false)], [.gone, .gone, .gone, .gone, .gone, .gone, .gone, .gone]) := by
  kernel_rfl
theorem so_6 (m : Nat → Nat) : runM ty tab_soS an_soS 9 Try.f12 [.sl 0 0 6, .sl 1 0 6] (hSol 6 m) = (solT 6 m).run := by
  refine Eq.trans (run_soS_6 9 m) ?_
  refine Eq.trans (lo_soS_6_0 2 (ktO_soS 8 9 (kEnd Try.f12 8)) _ (fun m => endr_soS_6 9 m) m) ?_
  unfold solT solL solM solOk
  cases sol sizB 7 6 6 0 m with
  | none => rfl
  | some m' => exact end_soS_6 9 m'
theorem ok_soS_6 : FnT Try.prog 12 (gSol 6) := by
  refine fnM tabok_soS Try.func12 rfl rfl an_soS fun vs h v h' e => ?_
  unfold gSol at e
  split at e
  case h_2 => exact (T.no_inv e).elim
  rename_i m hm
  obtain ⟨rfl, rfl⟩ := readS_inv hm
  exact ⟨hSol_rw 6 m, 9, (so_6 m).trans e⟩
end Go.Proofs.Ytppdnhjcnjfppaa.Ab
