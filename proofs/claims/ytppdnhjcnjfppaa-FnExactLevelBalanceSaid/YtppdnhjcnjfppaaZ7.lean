/- What the proof names: lemmas and words, merged by a program from its parts. No condition. -/
import Derived.Test.YtppdnhjcnjfppaaZ2
namespace Go.Proofs.Ytppdnhjcnjfppaa.Ab
set_option linter.unusedVariables false
set_option linter.unusedSimpArgs false
open Go
def stO_baI_5 (rw : Bool) (l : List Nat) (k : Int) (m : Nat → Nat) : St := ⟨(.int .i64 5 :: .any :: .any :: .any :: .any :: .any :: .sl 1 0 5 :: (anys 73 (.int .i64 5 :: .int .i64 k :: (anys 150 [])))), [.at rw (.fl .f32 l), .at true (.as 1 [.sl 2 0 6, .sl 3 0 6, .sl 4 0 6, .sl 5 0 6, .sl 6 0 6]), .at true (.fl .f32 [m 0, m 1, m 2, m 3, m 4, m 5]), .at true (.fl .f32 [m 6, m 7, m 8, m 9, m 10, m 11]), .at true (.fl .f32 [m 12, m 13, m 14, m 15, m 16, m 17]), .at true (.fl .f32 [m 18, m 19, m 20, m 21, m 22, m 23]), .at true (.fl .f32 [m 24, m 25, m 26, m 27, m 28, m 29])]⟩
def stS_baI_5 (rw : Bool) (l : List Nat) (k : Int) (i : Int) (a : Int) (m : Nat → Nat) : St := ⟨(.int .i64 5 :: .any :: .any :: .any :: .any :: .any :: .sl 1 0 5 :: .any :: .any :: .any :: .int .i64 k :: .int .i64 a :: .int .i64 i :: (anys 67 (.int .i64 5 :: .int .i64 k :: (anys 150 [])))), [.at rw (.fl .f32 l), .at true (.as 1 [.sl 2 0 6, .sl 3 0 6, .sl 4 0 6, .sl 5 0 6, .sl 6 0 6]), .at true (.fl .f32 [m 0, m 1, m 2, m 3, m 4, m 5]), .at true (.fl .f32 [m 6, m 7, m 8, m 9, m 10, m 11]), .at true (.fl .f32 [m 12, m 13, m 14, m 15, m 16, m 17]), .at true (.fl .f32 [m 18, m 19, m 20, m 21, m 22, m 23]), .at true (.fl .f32 [m 24, m 25, m 26, m 27, m 28, m 29])]⟩
def sts_baI_5 (rw : Bool) (l : List Nat) (k : Int) (a : Int) (m : Nat → Nat) : St := ⟨(.int .i64 5 :: .any :: .any :: .any :: .any :: .any :: .sl 1 0 5 :: .any :: .any :: .any :: .int .i64 k :: .int .i64 a :: (anys 68 (.int .i64 5 :: .int .i64 k :: (anys 150 [])))), [.at rw (.fl .f32 l), .at true (.as 1 [.sl 2 0 6, .sl 3 0 6, .sl 4 0 6, .sl 5 0 6, .sl 6 0 6]), .at true (.fl .f32 [m 0, m 1, m 2, m 3, m 4, m 5]), .at true (.fl .f32 [m 6, m 7, m 8, m 9, m 10, m 11]), .at true (.fl .f32 [m 12, m 13, m 14, m 15, m 16, m 17]), .at true (.fl .f32 [m 18, m 19, m 20, m 21, m 22, m 23]), .at true (.fl .f32 [m 24, m 25, m 26, m 27, m 28, m 29])]⟩
def stE_baI_5 (rw : Bool) (l : List Nat) (k : Int) (i : Int) (m : Nat → Nat) : St := ⟨(.int .i64 5 :: .any :: .any :: .any :: .any :: .any :: .sl 1 0 5 :: .any :: .any :: .any :: .int .i64 k :: .any :: .any :: .int .i64 i :: (anys 66 (.int .i64 5 :: .int .i64 k :: (anys 150 [])))), [.at rw (.fl .f32 l), .at true (.as 1 [.sl 2 0 6, .sl 3 0 6, .sl 4 0 6, .sl 5 0 6, .sl 6 0 6]), .at true (.fl .f32 [m 0, m 1, m 2, m 3, m 4, m 5]), .at true (.fl .f32 [m 6, m 7, m 8, m 9, m 10, m 11]), .at true (.fl .f32 [m 12, m 13, m 14, m 15, m 16, m 17]), .at true (.fl .f32 [m 18, m 19, m 20, m 21, m 22, m 23]), .at true (.fl .f32 [m 24, m 25, m 26, m 27, m 28, m 29])]⟩
def ste_baI_5 (rw : Bool) (l : List Nat) (k : Int) (m : Nat → Nat) : St := ⟨(.int .i64 5 :: .any :: .any :: .any :: .any :: .any :: .sl 1 0 5 :: (anys 73 (.int .i64 5 :: .int .i64 k :: (anys 150 [])))), [.at rw (.fl .f32 l), .at true (.as 1 [.sl 2 0 6, .sl 3 0 6, .sl 4 0 6, .sl 5 0 6, .sl 6 0 6]), .at true (.fl .f32 [m 0, m 1, m 2, m 3, m 4, m 5]), .at true (.fl .f32 [m 6, m 7, m 8, m 9, m 10, m 11]), .at true (.fl .f32 [m 12, m 13, m 14, m 15, m 16, m 17]), .at true (.fl .f32 [m 18, m 19, m 20, m 21, m 22, m 23]), .at true (.fl .f32 [m 24, m 25, m 26, m 27, m 28, m 29])]⟩
def stX_baI_5 (rw : Bool) (l : List Nat) (m : Nat → Nat) : St := ⟨(.int .i64 5 :: .any :: .any :: .any :: .any :: .any :: .sl 1 0 5 :: (anys 225 [])), [.at rw (.fl .f32 l), .at true (.as 1 [.sl 2 0 6, .sl 3 0 6, .sl 4 0 6, .sl 5 0 6, .sl 6 0 6]), .at true (.fl .f32 [m 0, m 1, m 2, m 3, m 4, m 5]), .at true (.fl .f32 [m 6, m 7, m 8, m 9, m 10, m 11]), .at true (.fl .f32 [m 12, m 13, m 14, m 15, m 16, m 17]), .at true (.fl .f32 [m 18, m 19, m 20, m 21, m 22, m 23]), .at true (.fl .f32 [m 24, m 25, m 26, m 27, m 28, m 29])]⟩
def stR_baI_5 (rw : Bool) (l : List Nat) (m : Nat → Nat) : St := ⟨(.int .i64 5 :: .any :: .any :: .any :: .nil :: .bool false :: .sl 1 0 5 :: (anys 225 [])), [.at rw (.fl .f32 l), .at true (.as 1 [.sl 2 0 6, .sl 3 0 6, .sl 4 0 6, .sl 5 0 6, .sl 6 0 6]), .at true (.fl .f32 [m 0, m 1, m 2, m 3, m 4, m 5]), .at true (.fl .f32 [m 6, m 7, m 8, m 9, m 10, m 11]), .at true (.fl .f32 [m 12, m 13, m 14, m 15, m 16, m 17]), .at true (.fl .f32 [m 18, m 19, m 20, m 21, m 22, m 23]), .at true (.fl .f32 [m 24, m 25, m 26, m 27, m 28, m 29])]⟩
theorem head_baI_5_0 {R : Type} (N M : Nat) (K : X → St → Option R) (rw : Bool) (l : List Nat) (m : Nat → Nat) : lpO_baI 1 N (M + 1) (stO_baI_5 rw l 0 m) K
    = lpS_baI 1 N N (stS_baI_5 rw l 0 1 0 m) (ktS_baI 1 N (bk_baI 1 N M K)) := by
  kernel_rfl
theorem se_baI_5_0_5_4 {R : Type} (N M : Nat) (K : X → St → Option R) (rw : Bool) (l : List Nat) (m : Nat → Nat) : lpS_baI 1 N (M + 1) (stS_baI_5 rw l 0 5 4 m) K
    = K (.exit 7) (sts_baI_5 rw l 0 4 m) := by
  kernel_rfl
theorem se_baI_5_0_5_3 {R : Type} (N M : Nat) (K : X → St → Option R) (rw : Bool) (l : List Nat) (m : Nat → Nat) : lpS_baI 1 N (M + 1) (stS_baI_5 rw l 0 5 3 m) K
    = K (.exit 7) (sts_baI_5 rw l 0 3 m) := by
  kernel_rfl
theorem se_baI_5_0_5_2 {R : Type} (N M : Nat) (K : X → St → Option R) (rw : Bool) (l : List Nat) (m : Nat → Nat) : lpS_baI 1 N (M + 1) (stS_baI_5 rw l 0 5 2 m) K
    = K (.exit 7) (sts_baI_5 rw l 0 2 m) := by
  kernel_rfl
theorem se_baI_5_0_5_1 {R : Type} (N M : Nat) (K : X → St → Option R) (rw : Bool) (l : List Nat) (m : Nat → Nat) : lpS_baI 1 N (M + 1) (stS_baI_5 rw l 0 5 1 m) K
    = K (.exit 7) (sts_baI_5 rw l 0 1 m) := by
  kernel_rfl
theorem se_baI_5_0_5_0 {R : Type} (N M : Nat) (K : X → St → Option R) (rw : Bool) (l : List Nat) (m : Nat → Nat) : lpS_baI 1 N (M + 1) (stS_baI_5 rw l 0 5 0 m) K
    = K (.exit 7) (sts_baI_5 rw l 0 0 m) := by
  kernel_rfl
theorem sf_baI_5_0_4_3 {R : Type} (N M : Nat) (K : X → St → Option R) (rw : Bool) (l : List Nat) (m : Nat → Nat) : lpS_baI 1 N (M + 1) (stS_baI_5 rw l 0 4 3 m) K
    = match gtB (magB (m 24)) (magB (m 18)) with | true => lpS_baI 1 N M (stS_baI_5 rw l 0 5 4 m) K | false => lpS_baI 1 N M (stS_baI_5 rw l 0 5 3 m) K := by
  kernel_rfl
theorem se_baI_5_0_4_3 {R : Type} (N M : Nat) (K : X → St → Option R) (rw : Bool) (l : List Nat) (m : Nat → Nat) : lpS_baI 1 N (M + 2) (stS_baI_5 rw l 0 4 3 m) K
    = K (.exit 7) (sts_baI_5 rw l 0 ((seaV magB 6 0 m 1 4 3 : Nat) : Int) m) := by
  refine Eq.trans (sf_baI_5_0_4_3 N (M + 1) K rw l m) ?_
  unfold seaV
  show _ = K _ (sts_baI_5 rw l 0 ((match gtB (magB (m 24)) (magB (m 18)) with | true => _ | false => _ : Nat) : Int) m)
  cases gtB (magB (m 24)) (magB (m 18))
  · exact se_baI_5_0_5_3 N M K rw l m
  · exact se_baI_5_0_5_4 N M K rw l m
theorem sf_baI_5_0_4_2 {R : Type} (N M : Nat) (K : X → St → Option R) (rw : Bool) (l : List Nat) (m : Nat → Nat) : lpS_baI 1 N (M + 1) (stS_baI_5 rw l 0 4 2 m) K
    = match gtB (magB (m 24)) (magB (m 12)) with | true => lpS_baI 1 N M (stS_baI_5 rw l 0 5 4 m) K | false => lpS_baI 1 N M (stS_baI_5 rw l 0 5 2 m) K := by
  kernel_rfl
theorem se_baI_5_0_4_2 {R : Type} (N M : Nat) (K : X → St → Option R) (rw : Bool) (l : List Nat) (m : Nat → Nat) : lpS_baI 1 N (M + 2) (stS_baI_5 rw l 0 4 2 m) K
    = K (.exit 7) (sts_baI_5 rw l 0 ((seaV magB 6 0 m 1 4 2 : Nat) : Int) m) := by
  refine Eq.trans (sf_baI_5_0_4_2 N (M + 1) K rw l m) ?_
  unfold seaV
  show _ = K _ (sts_baI_5 rw l 0 ((match gtB (magB (m 24)) (magB (m 12)) with | true => _ | false => _ : Nat) : Int) m)
  cases gtB (magB (m 24)) (magB (m 12))
  · exact se_baI_5_0_5_2 N M K rw l m
  · exact se_baI_5_0_5_4 N M K rw l m
theorem sf_baI_5_0_4_1 {R : Type} (N M : Nat) (K : X → St → Option R) (rw : Bool) (l : List Nat) (m : Nat → Nat) : lpS_baI 1 N (M + 1) (stS_baI_5 rw l 0 4 1 m) K
    = match gtB (magB (m 24)) (magB (m 6)) with | true => lpS_baI 1 N M (stS_baI_5 rw l 0 5 4 m) K | false => lpS_baI 1 N M (stS_baI_5 rw l 0 5 1 m) K := by
  kernel_rfl
theorem se_baI_5_0_4_1 {R : Type} (N M : Nat) (K : X → St → Option R) (rw : Bool) (l : List Nat) (m : Nat → Nat) : lpS_baI 1 N (M + 2) (stS_baI_5 rw l 0 4 1 m) K
    = K (.exit 7) (sts_baI_5 rw l 0 ((seaV magB 6 0 m 1 4 1 : Nat) : Int) m) := by
  refine Eq.trans (sf_baI_5_0_4_1 N (M + 1) K rw l m) ?_
  unfold seaV
  show _ = K _ (sts_baI_5 rw l 0 ((match gtB (magB (m 24)) (magB (m 6)) with | true => _ | false => _ : Nat) : Int) m)
  cases gtB (magB (m 24)) (magB (m 6))
  · exact se_baI_5_0_5_1 N M K rw l m
  · exact se_baI_5_0_5_4 N M K rw l m
theorem sf_baI_5_0_4_0 {R : Type} (N M : Nat) (K : X → St → Option R) (rw : Bool) (l : List Nat) (m : Nat → Nat) : lpS_baI 1 N (M + 1) (stS_baI_5 rw l 0 4 0 m) K
    = match gtB (magB (m 24)) (magB (m 0)) with | true => lpS_baI 1 N M (stS_baI_5 rw l 0 5 4 m) K | false => lpS_baI 1 N M (stS_baI_5 rw l 0 5 0 m) K := by
  kernel_rfl
theorem se_baI_5_0_4_0 {R : Type} (N M : Nat) (K : X → St → Option R) (rw : Bool) (l : List Nat) (m : Nat → Nat) : lpS_baI 1 N (M + 2) (stS_baI_5 rw l 0 4 0 m) K
    = K (.exit 7) (sts_baI_5 rw l 0 ((seaV magB 6 0 m 1 4 0 : Nat) : Int) m) := by
  refine Eq.trans (sf_baI_5_0_4_0 N (M + 1) K rw l m) ?_
  unfold seaV
  show _ = K _ (sts_baI_5 rw l 0 ((match gtB (magB (m 24)) (magB (m 0)) with | true => _ | false => _ : Nat) : Int) m)
  cases gtB (magB (m 24)) (magB (m 0))
  · exact se_baI_5_0_5_0 N M K rw l m
  · exact se_baI_5_0_5_4 N M K rw l m
theorem sf_baI_5_0_3_2 {R : Type} (N M : Nat) (K : X → St → Option R) (rw : Bool) (l : List Nat) (m : Nat → Nat) : lpS_baI 1 N (M + 1) (stS_baI_5 rw l 0 3 2 m) K
    = match gtB (magB (m 18)) (magB (m 12)) with | true => lpS_baI 1 N M (stS_baI_5 rw l 0 4 3 m) K | false => lpS_baI 1 N M (stS_baI_5 rw l 0 4 2 m) K := by
  kernel_rfl
theorem se_baI_5_0_3_2 {R : Type} (N M : Nat) (K : X → St → Option R) (rw : Bool) (l : List Nat) (m : Nat → Nat) : lpS_baI 1 N (M + 3) (stS_baI_5 rw l 0 3 2 m) K
    = K (.exit 7) (sts_baI_5 rw l 0 ((seaV magB 6 0 m 2 3 2 : Nat) : Int) m) := by
  refine Eq.trans (sf_baI_5_0_3_2 N (M + 2) K rw l m) ?_
  unfold seaV
  show _ = K _ (sts_baI_5 rw l 0 ((match gtB (magB (m 18)) (magB (m 12)) with | true => _ | false => _ : Nat) : Int) m)
  cases gtB (magB (m 18)) (magB (m 12))
  · exact se_baI_5_0_4_2 N M K rw l m
  · exact se_baI_5_0_4_3 N M K rw l m
theorem sf_baI_5_0_3_1 {R : Type} (N M : Nat) (K : X → St → Option R) (rw : Bool) (l : List Nat) (m : Nat → Nat) : lpS_baI 1 N (M + 1) (stS_baI_5 rw l 0 3 1 m) K
    = match gtB (magB (m 18)) (magB (m 6)) with | true => lpS_baI 1 N M (stS_baI_5 rw l 0 4 3 m) K | false => lpS_baI 1 N M (stS_baI_5 rw l 0 4 1 m) K := by
  kernel_rfl
theorem se_baI_5_0_3_1 {R : Type} (N M : Nat) (K : X → St → Option R) (rw : Bool) (l : List Nat) (m : Nat → Nat) : lpS_baI 1 N (M + 3) (stS_baI_5 rw l 0 3 1 m) K
    = K (.exit 7) (sts_baI_5 rw l 0 ((seaV magB 6 0 m 2 3 1 : Nat) : Int) m) := by
  refine Eq.trans (sf_baI_5_0_3_1 N (M + 2) K rw l m) ?_
  unfold seaV
  show _ = K _ (sts_baI_5 rw l 0 ((match gtB (magB (m 18)) (magB (m 6)) with | true => _ | false => _ : Nat) : Int) m)
  cases gtB (magB (m 18)) (magB (m 6))
  · exact se_baI_5_0_4_1 N M K rw l m
  · exact se_baI_5_0_4_3 N M K rw l m
theorem sf_baI_5_0_3_0 {R : Type} (N M : Nat) (K : X → St → Option R) (rw : Bool) (l : List Nat) (m : Nat → Nat) : lpS_baI 1 N (M + 1) (stS_baI_5 rw l 0 3 0 m) K
    = match gtB (magB (m 18)) (magB (m 0)) with | true => lpS_baI 1 N M (stS_baI_5 rw l 0 4 3 m) K | false => lpS_baI 1 N M (stS_baI_5 rw l 0 4 0 m) K := by
  kernel_rfl
theorem se_baI_5_0_3_0 {R : Type} (N M : Nat) (K : X → St → Option R) (rw : Bool) (l : List Nat) (m : Nat → Nat) : lpS_baI 1 N (M + 3) (stS_baI_5 rw l 0 3 0 m) K
    = K (.exit 7) (sts_baI_5 rw l 0 ((seaV magB 6 0 m 2 3 0 : Nat) : Int) m) := by
  refine Eq.trans (sf_baI_5_0_3_0 N (M + 2) K rw l m) ?_
  unfold seaV
  show _ = K _ (sts_baI_5 rw l 0 ((match gtB (magB (m 18)) (magB (m 0)) with | true => _ | false => _ : Nat) : Int) m)
  cases gtB (magB (m 18)) (magB (m 0))
  · exact se_baI_5_0_4_0 N M K rw l m
  · exact se_baI_5_0_4_3 N M K rw l m
theorem sf_baI_5_0_2_1 {R : Type} (N M : Nat) (K : X → St → Option R) (rw : Bool) (l : List Nat) (m : Nat → Nat) : lpS_baI 1 N (M + 1) (stS_baI_5 rw l 0 2 1 m) K
    = match gtB (magB (m 12)) (magB (m 6)) with | true => lpS_baI 1 N M (stS_baI_5 rw l 0 3 2 m) K | false => lpS_baI 1 N M (stS_baI_5 rw l 0 3 1 m) K := by
  kernel_rfl
theorem se_baI_5_0_2_1 {R : Type} (N M : Nat) (K : X → St → Option R) (rw : Bool) (l : List Nat) (m : Nat → Nat) : lpS_baI 1 N (M + 4) (stS_baI_5 rw l 0 2 1 m) K
    = K (.exit 7) (sts_baI_5 rw l 0 ((seaV magB 6 0 m 3 2 1 : Nat) : Int) m) := by
  refine Eq.trans (sf_baI_5_0_2_1 N (M + 3) K rw l m) ?_
  unfold seaV
  show _ = K _ (sts_baI_5 rw l 0 ((match gtB (magB (m 12)) (magB (m 6)) with | true => _ | false => _ : Nat) : Int) m)
  cases gtB (magB (m 12)) (magB (m 6))
  · exact se_baI_5_0_3_1 N M K rw l m
  · exact se_baI_5_0_3_2 N M K rw l m
theorem sf_baI_5_0_2_0 {R : Type} (N M : Nat) (K : X → St → Option R) (rw : Bool) (l : List Nat) (m : Nat → Nat) : lpS_baI 1 N (M + 1) (stS_baI_5 rw l 0 2 0 m) K
    = match gtB (magB (m 12)) (magB (m 0)) with | true => lpS_baI 1 N M (stS_baI_5 rw l 0 3 2 m) K | false => lpS_baI 1 N M (stS_baI_5 rw l 0 3 0 m) K := by
  kernel_rfl
theorem se_baI_5_0_2_0 {R : Type} (N M : Nat) (K : X → St → Option R) (rw : Bool) (l : List Nat) (m : Nat → Nat) : lpS_baI 1 N (M + 4) (stS_baI_5 rw l 0 2 0 m) K
    = K (.exit 7) (sts_baI_5 rw l 0 ((seaV magB 6 0 m 3 2 0 : Nat) : Int) m) := by
  refine Eq.trans (sf_baI_5_0_2_0 N (M + 3) K rw l m) ?_
  unfold seaV
  show _ = K _ (sts_baI_5 rw l 0 ((match gtB (magB (m 12)) (magB (m 0)) with | true => _ | false => _ : Nat) : Int) m)
  cases gtB (magB (m 12)) (magB (m 0))
  · exact se_baI_5_0_3_0 N M K rw l m
  · exact se_baI_5_0_3_2 N M K rw l m
theorem sf_baI_5_0_1_0 {R : Type} (N M : Nat) (K : X → St → Option R) (rw : Bool) (l : List Nat) (m : Nat → Nat) : lpS_baI 1 N (M + 1) (stS_baI_5 rw l 0 1 0 m) K
    = match gtB (magB (m 6)) (magB (m 0)) with | true => lpS_baI 1 N M (stS_baI_5 rw l 0 2 1 m) K | false => lpS_baI 1 N M (stS_baI_5 rw l 0 2 0 m) K := by
  kernel_rfl
theorem se_baI_5_0_1_0 {R : Type} (N M : Nat) (K : X → St → Option R) (rw : Bool) (l : List Nat) (m : Nat → Nat) : lpS_baI 1 N (M + 5) (stS_baI_5 rw l 0 1 0 m) K
    = K (.exit 7) (sts_baI_5 rw l 0 ((seaV magB 6 0 m 4 1 0 : Nat) : Int) m) := by
  refine Eq.trans (sf_baI_5_0_1_0 N (M + 4) K rw l m) ?_
  unfold seaV
  show _ = K _ (sts_baI_5 rw l 0 ((match gtB (magB (m 6)) (magB (m 0)) with | true => _ | false => _ : Nat) : Int) m)
  cases gtB (magB (m 6)) (magB (m 0))
  · exact se_baI_5_0_2_0 N M K rw l m
  · exact se_baI_5_0_2_1 N M K rw l m
theorem sx_baI_5_0_0 {R : Type} (N M : Nat) (K : X → St → Option R) (rw : Bool) (l : List Nat) (m : Nat → Nat) : ktS_baI 1 N (bk_baI 1 N M K) (.exit 7) (sts_baI_5 rw l 0 0 m)
    = match eqB (m 0) 0 with | true => K .ret (stR_baI_5 rw l (swapM 6 0 0 m)) | false => lpE_baI 1 N N (stE_baI_5 rw l 0 1 (swapM 6 0 0 m)) (ktE_baI 1 N (bk_baI 1 N M K)) := by
  kernel_rfl
theorem sx_baI_5_0_1 {R : Type} (N M : Nat) (K : X → St → Option R) (rw : Bool) (l : List Nat) (m : Nat → Nat) : ktS_baI 1 N (bk_baI 1 N M K) (.exit 7) (sts_baI_5 rw l 0 1 m)
    = match eqB (m 6) 0 with | true => K .ret (stR_baI_5 rw l (swapM 6 0 1 m)) | false => lpE_baI 1 N N (stE_baI_5 rw l 0 1 (swapM 6 0 1 m)) (ktE_baI 1 N (bk_baI 1 N M K)) := by
  kernel_rfl
theorem sx_baI_5_0_2 {R : Type} (N M : Nat) (K : X → St → Option R) (rw : Bool) (l : List Nat) (m : Nat → Nat) : ktS_baI 1 N (bk_baI 1 N M K) (.exit 7) (sts_baI_5 rw l 0 2 m)
    = match eqB (m 12) 0 with | true => K .ret (stR_baI_5 rw l (swapM 6 0 2 m)) | false => lpE_baI 1 N N (stE_baI_5 rw l 0 1 (swapM 6 0 2 m)) (ktE_baI 1 N (bk_baI 1 N M K)) := by
  kernel_rfl
theorem sx_baI_5_0_3 {R : Type} (N M : Nat) (K : X → St → Option R) (rw : Bool) (l : List Nat) (m : Nat → Nat) : ktS_baI 1 N (bk_baI 1 N M K) (.exit 7) (sts_baI_5 rw l 0 3 m)
    = match eqB (m 18) 0 with | true => K .ret (stR_baI_5 rw l (swapM 6 0 3 m)) | false => lpE_baI 1 N N (stE_baI_5 rw l 0 1 (swapM 6 0 3 m)) (ktE_baI 1 N (bk_baI 1 N M K)) := by
  kernel_rfl
theorem sx_baI_5_0_4 {R : Type} (N M : Nat) (K : X → St → Option R) (rw : Bool) (l : List Nat) (m : Nat → Nat) : ktS_baI 1 N (bk_baI 1 N M K) (.exit 7) (sts_baI_5 rw l 0 4 m)
    = match eqB (m 24) 0 with | true => K .ret (stR_baI_5 rw l (swapM 6 0 4 m)) | false => lpE_baI 1 N N (stE_baI_5 rw l 0 1 (swapM 6 0 4 m)) (ktE_baI 1 N (bk_baI 1 N M K)) := by
  kernel_rfl
theorem el_baI_5_0 {R : Type} (N M : Nat) (K : X → St → Option R) (rw : Bool) (l : List Nat) (m : Nat → Nat) : lpE_baI 1 N (M + 5) (stE_baI_5 rw l 0 1 m) K
    = K (.exit 9) (ste_baI_5 rw l 0 (elimM 6 0 m)) := by
  kernel_rfl
theorem ex_baI_5_0 {R : Type} (N M : Nat) (K : X → St → Option R) (rw : Bool) (l : List Nat) (m : Nat → Nat) : ktE_baI 1 N (bk_baI 1 N M K) (.exit 9) (ste_baI_5 rw l 0 m)
    = lpO_baI 1 N M (stO_baI_5 rw l 1 m) K := by
  kernel_rfl
theorem head_baI_5_1 {R : Type} (N M : Nat) (K : X → St → Option R) (rw : Bool) (l : List Nat) (m : Nat → Nat) : lpO_baI 1 N (M + 1) (stO_baI_5 rw l 1 m) K
    = lpS_baI 1 N N (stS_baI_5 rw l 1 2 1 m) (ktS_baI 1 N (bk_baI 1 N M K)) := by
  kernel_rfl
theorem se_baI_5_1_5_4 {R : Type} (N M : Nat) (K : X → St → Option R) (rw : Bool) (l : List Nat) (m : Nat → Nat) : lpS_baI 1 N (M + 1) (stS_baI_5 rw l 1 5 4 m) K
    = K (.exit 7) (sts_baI_5 rw l 1 4 m) := by
  kernel_rfl
theorem se_baI_5_1_5_3 {R : Type} (N M : Nat) (K : X → St → Option R) (rw : Bool) (l : List Nat) (m : Nat → Nat) : lpS_baI 1 N (M + 1) (stS_baI_5 rw l 1 5 3 m) K
    = K (.exit 7) (sts_baI_5 rw l 1 3 m) := by
  kernel_rfl
theorem se_baI_5_1_5_2 {R : Type} (N M : Nat) (K : X → St → Option R) (rw : Bool) (l : List Nat) (m : Nat → Nat) : lpS_baI 1 N (M + 1) (stS_baI_5 rw l 1 5 2 m) K
    = K (.exit 7) (sts_baI_5 rw l 1 2 m) := by
  kernel_rfl
theorem se_baI_5_1_5_1 {R : Type} (N M : Nat) (K : X → St → Option R) (rw : Bool) (l : List Nat) (m : Nat → Nat) : lpS_baI 1 N (M + 1) (stS_baI_5 rw l 1 5 1 m) K
    = K (.exit 7) (sts_baI_5 rw l 1 1 m) := by
  kernel_rfl
theorem sf_baI_5_1_4_3 {R : Type} (N M : Nat) (K : X → St → Option R) (rw : Bool) (l : List Nat) (m : Nat → Nat) : lpS_baI 1 N (M + 1) (stS_baI_5 rw l 1 4 3 m) K
    = match gtB (magB (m 25)) (magB (m 19)) with | true => lpS_baI 1 N M (stS_baI_5 rw l 1 5 4 m) K | false => lpS_baI 1 N M (stS_baI_5 rw l 1 5 3 m) K := by
  kernel_rfl
theorem se_baI_5_1_4_3 {R : Type} (N M : Nat) (K : X → St → Option R) (rw : Bool) (l : List Nat) (m : Nat → Nat) : lpS_baI 1 N (M + 2) (stS_baI_5 rw l 1 4 3 m) K
    = K (.exit 7) (sts_baI_5 rw l 1 ((seaV magB 6 1 m 1 4 3 : Nat) : Int) m) := by
  refine Eq.trans (sf_baI_5_1_4_3 N (M + 1) K rw l m) ?_
  unfold seaV
  show _ = K _ (sts_baI_5 rw l 1 ((match gtB (magB (m 25)) (magB (m 19)) with | true => _ | false => _ : Nat) : Int) m)
  cases gtB (magB (m 25)) (magB (m 19))
  · exact se_baI_5_1_5_3 N M K rw l m
  · exact se_baI_5_1_5_4 N M K rw l m
theorem sf_baI_5_1_4_2 {R : Type} (N M : Nat) (K : X → St → Option R) (rw : Bool) (l : List Nat) (m : Nat → Nat) : lpS_baI 1 N (M + 1) (stS_baI_5 rw l 1 4 2 m) K
    = match gtB (magB (m 25)) (magB (m 13)) with | true => lpS_baI 1 N M (stS_baI_5 rw l 1 5 4 m) K | false => lpS_baI 1 N M (stS_baI_5 rw l 1 5 2 m) K := by
  kernel_rfl
theorem se_baI_5_1_4_2 {R : Type} (N M : Nat) (K : X → St → Option R) (rw : Bool) (l : List Nat) (m : Nat → Nat) : lpS_baI 1 N (M + 2) (stS_baI_5 rw l 1 4 2 m) K
    = K (.exit 7) (sts_baI_5 rw l 1 ((seaV magB 6 1 m 1 4 2 : Nat) : Int) m) := by
  refine Eq.trans (sf_baI_5_1_4_2 N (M + 1) K rw l m) ?_
  unfold seaV
  show _ = K _ (sts_baI_5 rw l 1 ((match gtB (magB (m 25)) (magB (m 13)) with | true => _ | false => _ : Nat) : Int) m)
  cases gtB (magB (m 25)) (magB (m 13))
  · exact se_baI_5_1_5_2 N M K rw l m
  · exact se_baI_5_1_5_4 N M K rw l m
theorem sf_baI_5_1_4_1 {R : Type} (N M : Nat) (K : X → St → Option R) (rw : Bool) (l : List Nat) (m : Nat → Nat) : lpS_baI 1 N (M + 1) (stS_baI_5 rw l 1 4 1 m) K
    = match gtB (magB (m 25)) (magB (m 7)) with | true => lpS_baI 1 N M (stS_baI_5 rw l 1 5 4 m) K | false => lpS_baI 1 N M (stS_baI_5 rw l 1 5 1 m) K := by
  kernel_rfl
theorem se_baI_5_1_4_1 {R : Type} (N M : Nat) (K : X → St → Option R) (rw : Bool) (l : List Nat) (m : Nat → Nat) : lpS_baI 1 N (M + 2) (stS_baI_5 rw l 1 4 1 m) K
    = K (.exit 7) (sts_baI_5 rw l 1 ((seaV magB 6 1 m 1 4 1 : Nat) : Int) m) := by
  refine Eq.trans (sf_baI_5_1_4_1 N (M + 1) K rw l m) ?_
  unfold seaV
  show _ = K _ (sts_baI_5 rw l 1 ((match gtB (magB (m 25)) (magB (m 7)) with | true => _ | false => _ : Nat) : Int) m)
  cases gtB (magB (m 25)) (magB (m 7))
  · exact se_baI_5_1_5_1 N M K rw l m
  · exact se_baI_5_1_5_4 N M K rw l m
theorem sf_baI_5_1_3_2 {R : Type} (N M : Nat) (K : X → St → Option R) (rw : Bool) (l : List Nat) (m : Nat → Nat) : lpS_baI 1 N (M + 1) (stS_baI_5 rw l 1 3 2 m) K
    = match gtB (magB (m 19)) (magB (m 13)) with | true => lpS_baI 1 N M (stS_baI_5 rw l 1 4 3 m) K | false => lpS_baI 1 N M (stS_baI_5 rw l 1 4 2 m) K := by
  kernel_rfl
theorem se_baI_5_1_3_2 {R : Type} (N M : Nat) (K : X → St → Option R) (rw : Bool) (l : List Nat) (m : Nat → Nat) : lpS_baI 1 N (M + 3) (stS_baI_5 rw l 1 3 2 m) K
    = K (.exit 7) (sts_baI_5 rw l 1 ((seaV magB 6 1 m 2 3 2 : Nat) : Int) m) := by
  refine Eq.trans (sf_baI_5_1_3_2 N (M + 2) K rw l m) ?_
  unfold seaV
  show _ = K _ (sts_baI_5 rw l 1 ((match gtB (magB (m 19)) (magB (m 13)) with | true => _ | false => _ : Nat) : Int) m)
  cases gtB (magB (m 19)) (magB (m 13))
  · exact se_baI_5_1_4_2 N M K rw l m
  · exact se_baI_5_1_4_3 N M K rw l m
theorem sf_baI_5_1_3_1 {R : Type} (N M : Nat) (K : X → St → Option R) (rw : Bool) (l : List Nat) (m : Nat → Nat) : lpS_baI 1 N (M + 1) (stS_baI_5 rw l 1 3 1 m) K
    = match gtB (magB (m 19)) (magB (m 7)) with | true => lpS_baI 1 N M (stS_baI_5 rw l 1 4 3 m) K | false => lpS_baI 1 N M (stS_baI_5 rw l 1 4 1 m) K := by
  kernel_rfl
theorem se_baI_5_1_3_1 {R : Type} (N M : Nat) (K : X → St → Option R) (rw : Bool) (l : List Nat) (m : Nat → Nat) : lpS_baI 1 N (M + 3) (stS_baI_5 rw l 1 3 1 m) K
    = K (.exit 7) (sts_baI_5 rw l 1 ((seaV magB 6 1 m 2 3 1 : Nat) : Int) m) := by
  refine Eq.trans (sf_baI_5_1_3_1 N (M + 2) K rw l m) ?_
  unfold seaV
  show _ = K _ (sts_baI_5 rw l 1 ((match gtB (magB (m 19)) (magB (m 7)) with | true => _ | false => _ : Nat) : Int) m)
  cases gtB (magB (m 19)) (magB (m 7))
  · exact se_baI_5_1_4_1 N M K rw l m
  · exact se_baI_5_1_4_3 N M K rw l m
theorem sf_baI_5_1_2_1 {R : Type} (N M : Nat) (K : X → St → Option R) (rw : Bool) (l : List Nat) (m : Nat → Nat) : lpS_baI 1 N (M + 1) (stS_baI_5 rw l 1 2 1 m) K
    = match gtB (magB (m 13)) (magB (m 7)) with | true => lpS_baI 1 N M (stS_baI_5 rw l 1 3 2 m) K | false => lpS_baI 1 N M (stS_baI_5 rw l 1 3 1 m) K := by
  kernel_rfl
theorem se_baI_5_1_2_1 {R : Type} (N M : Nat) (K : X → St → Option R) (rw : Bool) (l : List Nat) (m : Nat → Nat) : lpS_baI 1 N (M + 4) (stS_baI_5 rw l 1 2 1 m) K
    = K (.exit 7) (sts_baI_5 rw l 1 ((seaV magB 6 1 m 3 2 1 : Nat) : Int) m) := by
  refine Eq.trans (sf_baI_5_1_2_1 N (M + 3) K rw l m) ?_
  unfold seaV
  show _ = K _ (sts_baI_5 rw l 1 ((match gtB (magB (m 13)) (magB (m 7)) with | true => _ | false => _ : Nat) : Int) m)
  cases gtB (magB (m 13)) (magB (m 7))
  · exact se_baI_5_1_3_1 N M K rw l m
  · exact se_baI_5_1_3_2 N M K rw l m
theorem sx_baI_5_1_1 {R : Type} (N M : Nat) (K : X → St → Option R) (rw : Bool) (l : List Nat) (m : Nat → Nat) : ktS_baI 1 N (bk_baI 1 N M K) (.exit 7) (sts_baI_5 rw l 1 1 m)
    = match eqB (m 7) 0 with | true => K .ret (stR_baI_5 rw l (swapM 6 1 1 m)) | false => lpE_baI 1 N N (stE_baI_5 rw l 1 2 (swapM 6 1 1 m)) (ktE_baI 1 N (bk_baI 1 N M K)) := by
  kernel_rfl
theorem sx_baI_5_1_2 {R : Type} (N M : Nat) (K : X → St → Option R) (rw : Bool) (l : List Nat) (m : Nat → Nat) : ktS_baI 1 N (bk_baI 1 N M K) (.exit 7) (sts_baI_5 rw l 1 2 m)
    = match eqB (m 13) 0 with | true => K .ret (stR_baI_5 rw l (swapM 6 1 2 m)) | false => lpE_baI 1 N N (stE_baI_5 rw l 1 2 (swapM 6 1 2 m)) (ktE_baI 1 N (bk_baI 1 N M K)) := by
  kernel_rfl
theorem sx_baI_5_1_3 {R : Type} (N M : Nat) (K : X → St → Option R) (rw : Bool) (l : List Nat) (m : Nat → Nat) : ktS_baI 1 N (bk_baI 1 N M K) (.exit 7) (sts_baI_5 rw l 1 3 m)
    = match eqB (m 19) 0 with | true => K .ret (stR_baI_5 rw l (swapM 6 1 3 m)) | false => lpE_baI 1 N N (stE_baI_5 rw l 1 2 (swapM 6 1 3 m)) (ktE_baI 1 N (bk_baI 1 N M K)) := by
  kernel_rfl
theorem sx_baI_5_1_4 {R : Type} (N M : Nat) (K : X → St → Option R) (rw : Bool) (l : List Nat) (m : Nat → Nat) : ktS_baI 1 N (bk_baI 1 N M K) (.exit 7) (sts_baI_5 rw l 1 4 m)
    = match eqB (m 25) 0 with | true => K .ret (stR_baI_5 rw l (swapM 6 1 4 m)) | false => lpE_baI 1 N N (stE_baI_5 rw l 1 2 (swapM 6 1 4 m)) (ktE_baI 1 N (bk_baI 1 N M K)) := by
  kernel_rfl
theorem el_baI_5_1 {R : Type} (N M : Nat) (K : X → St → Option R) (rw : Bool) (l : List Nat) (m : Nat → Nat) : lpE_baI 1 N (M + 4) (stE_baI_5 rw l 1 2 m) K
    = K (.exit 9) (ste_baI_5 rw l 1 (elimM 6 1 m)) := by
  kernel_rfl
theorem ex_baI_5_1 {R : Type} (N M : Nat) (K : X → St → Option R) (rw : Bool) (l : List Nat) (m : Nat → Nat) : ktE_baI 1 N (bk_baI 1 N M K) (.exit 9) (ste_baI_5 rw l 1 m)
    = lpO_baI 1 N M (stO_baI_5 rw l 2 m) K := by
  kernel_rfl
theorem head_baI_5_2 {R : Type} (N M : Nat) (K : X → St → Option R) (rw : Bool) (l : List Nat) (m : Nat → Nat) : lpO_baI 1 N (M + 1) (stO_baI_5 rw l 2 m) K
    = lpS_baI 1 N N (stS_baI_5 rw l 2 3 2 m) (ktS_baI 1 N (bk_baI 1 N M K)) := by
  kernel_rfl
theorem se_baI_5_2_5_4 {R : Type} (N M : Nat) (K : X → St → Option R) (rw : Bool) (l : List Nat) (m : Nat → Nat) : lpS_baI 1 N (M + 1) (stS_baI_5 rw l 2 5 4 m) K
    = K (.exit 7) (sts_baI_5 rw l 2 4 m) := by
  kernel_rfl
theorem se_baI_5_2_5_3 {R : Type} (N M : Nat) (K : X → St → Option R) (rw : Bool) (l : List Nat) (m : Nat → Nat) : lpS_baI 1 N (M + 1) (stS_baI_5 rw l 2 5 3 m) K
    = K (.exit 7) (sts_baI_5 rw l 2 3 m) := by
  kernel_rfl
theorem se_baI_5_2_5_2 {R : Type} (N M : Nat) (K : X → St → Option R) (rw : Bool) (l : List Nat) (m : Nat → Nat) : lpS_baI 1 N (M + 1) (stS_baI_5 rw l 2 5 2 m) K
    = K (.exit 7) (sts_baI_5 rw l 2 2 m) := by
  kernel_rfl
theorem sf_baI_5_2_4_3 {R : Type} (N M : Nat) (K : X → St → Option R) (rw : Bool) (l : List Nat) (m : Nat → Nat) : lpS_baI 1 N (M + 1) (stS_baI_5 rw l 2 4 3 m) K
    = match gtB (magB (m 26)) (magB (m 20)) with | true => lpS_baI 1 N M (stS_baI_5 rw l 2 5 4 m) K | false => lpS_baI 1 N M (stS_baI_5 rw l 2 5 3 m) K := by
  kernel_rfl
theorem se_baI_5_2_4_3 {R : Type} (N M : Nat) (K : X → St → Option R) (rw : Bool) (l : List Nat) (m : Nat → Nat) : lpS_baI 1 N (M + 2) (stS_baI_5 rw l 2 4 3 m) K
    = K (.exit 7) (sts_baI_5 rw l 2 ((seaV magB 6 2 m 1 4 3 : Nat) : Int) m) := by
  refine Eq.trans (sf_baI_5_2_4_3 N (M + 1) K rw l m) ?_
  unfold seaV
  show _ = K _ (sts_baI_5 rw l 2 ((match gtB (magB (m 26)) (magB (m 20)) with | true => _ | false => _ : Nat) : Int) m)
  cases gtB (magB (m 26)) (magB (m 20))
  · exact se_baI_5_2_5_3 N M K rw l m
  · exact se_baI_5_2_5_4 N M K rw l m
theorem sf_baI_5_2_4_2 {R : Type} (N M : Nat) (K : X → St → Option R) (rw : Bool) (l : List Nat) (m : Nat → Nat) : lpS_baI 1 N (M + 1) (stS_baI_5 rw l 2 4 2 m) K
    = match gtB (magB (m 26)) (magB (m 14)) with | true => lpS_baI 1 N M (stS_baI_5 rw l 2 5 4 m) K | false => lpS_baI 1 N M (stS_baI_5 rw l 2 5 2 m) K := by
  kernel_rfl
theorem se_baI_5_2_4_2 {R : Type} (N M : Nat) (K : X → St → Option R) (rw : Bool) (l : List Nat) (m : Nat → Nat) : lpS_baI 1 N (M + 2) (stS_baI_5 rw l 2 4 2 m) K
    = K (.exit 7) (sts_baI_5 rw l 2 ((seaV magB 6 2 m 1 4 2 : Nat) : Int) m) := by
  refine Eq.trans (sf_baI_5_2_4_2 N (M + 1) K rw l m) ?_
  unfold seaV
  show _ = K _ (sts_baI_5 rw l 2 ((match gtB (magB (m 26)) (magB (m 14)) with | true => _ | false => _ : Nat) : Int) m)
  cases gtB (magB (m 26)) (magB (m 14))
  · exact se_baI_5_2_5_2 N M K rw l m
  · exact se_baI_5_2_5_4 N M K rw l m
theorem sf_baI_5_2_3_2 {R : Type} (N M : Nat) (K : X → St → Option R) (rw : Bool) (l : List Nat) (m : Nat → Nat) : lpS_baI 1 N (M + 1) (stS_baI_5 rw l 2 3 2 m) K
    = match gtB (magB (m 20)) (magB (m 14)) with | true => lpS_baI 1 N M (stS_baI_5 rw l 2 4 3 m) K | false => lpS_baI 1 N M (stS_baI_5 rw l 2 4 2 m) K := by
  kernel_rfl
theorem se_baI_5_2_3_2 {R : Type} (N M : Nat) (K : X → St → Option R) (rw : Bool) (l : List Nat) (m : Nat → Nat) : lpS_baI 1 N (M + 3) (stS_baI_5 rw l 2 3 2 m) K
    = K (.exit 7) (sts_baI_5 rw l 2 ((seaV magB 6 2 m 2 3 2 : Nat) : Int) m) := by
  refine Eq.trans (sf_baI_5_2_3_2 N (M + 2) K rw l m) ?_
  unfold seaV
  show _ = K _ (sts_baI_5 rw l 2 ((match gtB (magB (m 20)) (magB (m 14)) with | true => _ | false => _ : Nat) : Int) m)
  cases gtB (magB (m 20)) (magB (m 14))
  · exact se_baI_5_2_4_2 N M K rw l m
  · exact se_baI_5_2_4_3 N M K rw l m
theorem sx_baI_5_2_2 {R : Type} (N M : Nat) (K : X → St → Option R) (rw : Bool) (l : List Nat) (m : Nat → Nat) : ktS_baI 1 N (bk_baI 1 N M K) (.exit 7) (sts_baI_5 rw l 2 2 m)
    = match eqB (m 14) 0 with | true => K .ret (stR_baI_5 rw l (swapM 6 2 2 m)) | false => lpE_baI 1 N N (stE_baI_5 rw l 2 3 (swapM 6 2 2 m)) (ktE_baI 1 N (bk_baI 1 N M K)) := by
  kernel_rfl
theorem sx_baI_5_2_3 {R : Type} (N M : Nat) (K : X → St → Option R) (rw : Bool) (l : List Nat) (m : Nat → Nat) : ktS_baI 1 N (bk_baI 1 N M K) (.exit 7) (sts_baI_5 rw l 2 3 m)
    = match eqB (m 20) 0 with | true => K .ret (stR_baI_5 rw l (swapM 6 2 3 m)) | false => lpE_baI 1 N N (stE_baI_5 rw l 2 3 (swapM 6 2 3 m)) (ktE_baI 1 N (bk_baI 1 N M K)) := by
  kernel_rfl
theorem sx_baI_5_2_4 {R : Type} (N M : Nat) (K : X → St → Option R) (rw : Bool) (l : List Nat) (m : Nat → Nat) : ktS_baI 1 N (bk_baI 1 N M K) (.exit 7) (sts_baI_5 rw l 2 4 m)
    = match eqB (m 26) 0 with | true => K .ret (stR_baI_5 rw l (swapM 6 2 4 m)) | false => lpE_baI 1 N N (stE_baI_5 rw l 2 3 (swapM 6 2 4 m)) (ktE_baI 1 N (bk_baI 1 N M K)) := by
  kernel_rfl
theorem el_baI_5_2 {R : Type} (N M : Nat) (K : X → St → Option R) (rw : Bool) (l : List Nat) (m : Nat → Nat) : lpE_baI 1 N (M + 3) (stE_baI_5 rw l 2 3 m) K
    = K (.exit 9) (ste_baI_5 rw l 2 (elimM 6 2 m)) := by
  kernel_rfl
theorem ex_baI_5_2 {R : Type} (N M : Nat) (K : X → St → Option R) (rw : Bool) (l : List Nat) (m : Nat → Nat) : ktE_baI 1 N (bk_baI 1 N M K) (.exit 9) (ste_baI_5 rw l 2 m)
    = lpO_baI 1 N M (stO_baI_5 rw l 3 m) K := by
  kernel_rfl
theorem head_baI_5_3 {R : Type} (N M : Nat) (K : X → St → Option R) (rw : Bool) (l : List Nat) (m : Nat → Nat) : lpO_baI 1 N (M + 1) (stO_baI_5 rw l 3 m) K
    = lpS_baI 1 N N (stS_baI_5 rw l 3 4 3 m) (ktS_baI 1 N (bk_baI 1 N M K)) := by
  kernel_rfl
theorem se_baI_5_3_5_4 {R : Type} (N M : Nat) (K : X → St → Option R) (rw : Bool) (l : List Nat) (m : Nat → Nat) : lpS_baI 1 N (M + 1) (stS_baI_5 rw l 3 5 4 m) K
    = K (.exit 7) (sts_baI_5 rw l 3 4 m) := by
  kernel_rfl
theorem se_baI_5_3_5_3 {R : Type} (N M : Nat) (K : X → St → Option R) (rw : Bool) (l : List Nat) (m : Nat → Nat) : lpS_baI 1 N (M + 1) (stS_baI_5 rw l 3 5 3 m) K
    = K (.exit 7) (sts_baI_5 rw l 3 3 m) := by
  kernel_rfl
theorem sf_baI_5_3_4_3 {R : Type} (N M : Nat) (K : X → St → Option R) (rw : Bool) (l : List Nat) (m : Nat → Nat) : lpS_baI 1 N (M + 1) (stS_baI_5 rw l 3 4 3 m) K
    = match gtB (magB (m 27)) (magB (m 21)) with | true => lpS_baI 1 N M (stS_baI_5 rw l 3 5 4 m) K | false => lpS_baI 1 N M (stS_baI_5 rw l 3 5 3 m) K := by
  kernel_rfl
theorem se_baI_5_3_4_3 {R : Type} (N M : Nat) (K : X → St → Option R) (rw : Bool) (l : List Nat) (m : Nat → Nat) : lpS_baI 1 N (M + 2) (stS_baI_5 rw l 3 4 3 m) K
    = K (.exit 7) (sts_baI_5 rw l 3 ((seaV magB 6 3 m 1 4 3 : Nat) : Int) m) := by
  refine Eq.trans (sf_baI_5_3_4_3 N (M + 1) K rw l m) ?_
  unfold seaV
  show _ = K _ (sts_baI_5 rw l 3 ((match gtB (magB (m 27)) (magB (m 21)) with | true => _ | false => _ : Nat) : Int) m)
  cases gtB (magB (m 27)) (magB (m 21))
  · exact se_baI_5_3_5_3 N M K rw l m
  · exact se_baI_5_3_5_4 N M K rw l m
theorem sx_baI_5_3_3 {R : Type} (N M : Nat) (K : X → St → Option R) (rw : Bool) (l : List Nat) (m : Nat → Nat) : ktS_baI 1 N (bk_baI 1 N M K) (.exit 7) (sts_baI_5 rw l 3 3 m)
    = match eqB (m 21) 0 with | true => K .ret (stR_baI_5 rw l (swapM 6 3 3 m)) | false => lpE_baI 1 N N (stE_baI_5 rw l 3 4 (swapM 6 3 3 m)) (ktE_baI 1 N (bk_baI 1 N M K)) := by
  kernel_rfl
theorem sx_baI_5_3_4 {R : Type} (N M : Nat) (K : X → St → Option R) (rw : Bool) (l : List Nat) (m : Nat → Nat) : ktS_baI 1 N (bk_baI 1 N M K) (.exit 7) (sts_baI_5 rw l 3 4 m)
    = match eqB (m 27) 0 with | true => K .ret (stR_baI_5 rw l (swapM 6 3 4 m)) | false => lpE_baI 1 N N (stE_baI_5 rw l 3 4 (swapM 6 3 4 m)) (ktE_baI 1 N (bk_baI 1 N M K)) := by
  kernel_rfl
theorem el_baI_5_3 {R : Type} (N M : Nat) (K : X → St → Option R) (rw : Bool) (l : List Nat) (m : Nat → Nat) : lpE_baI 1 N (M + 2) (stE_baI_5 rw l 3 4 m) K
    = K (.exit 9) (ste_baI_5 rw l 3 (elimM 6 3 m)) := by
  kernel_rfl
theorem ex_baI_5_3 {R : Type} (N M : Nat) (K : X → St → Option R) (rw : Bool) (l : List Nat) (m : Nat → Nat) : ktE_baI 1 N (bk_baI 1 N M K) (.exit 9) (ste_baI_5 rw l 3 m)
    = lpO_baI 1 N M (stO_baI_5 rw l 4 m) K := by
  kernel_rfl
theorem head_baI_5_4 {R : Type} (N M : Nat) (K : X → St → Option R) (rw : Bool) (l : List Nat) (m : Nat → Nat) : lpO_baI 1 N (M + 1) (stO_baI_5 rw l 4 m) K
    = lpS_baI 1 N N (stS_baI_5 rw l 4 5 4 m) (ktS_baI 1 N (bk_baI 1 N M K)) := by
  kernel_rfl
theorem se_baI_5_4_5_4 {R : Type} (N M : Nat) (K : X → St → Option R) (rw : Bool) (l : List Nat) (m : Nat → Nat) : lpS_baI 1 N (M + 1) (stS_baI_5 rw l 4 5 4 m) K
    = K (.exit 7) (sts_baI_5 rw l 4 4 m) := by
  kernel_rfl
theorem sx_baI_5_4_4 {R : Type} (N M : Nat) (K : X → St → Option R) (rw : Bool) (l : List Nat) (m : Nat → Nat) : ktS_baI 1 N (bk_baI 1 N M K) (.exit 7) (sts_baI_5 rw l 4 4 m)
    = match eqB (m 28) 0 with | true => K .ret (stR_baI_5 rw l (swapM 6 4 4 m)) | false => lpE_baI 1 N N (stE_baI_5 rw l 4 5 (swapM 6 4 4 m)) (ktE_baI 1 N (bk_baI 1 N M K)) := by
  kernel_rfl
theorem el_baI_5_4 {R : Type} (N M : Nat) (K : X → St → Option R) (rw : Bool) (l : List Nat) (m : Nat → Nat) : lpE_baI 1 N (M + 1) (stE_baI_5 rw l 4 5 m) K
    = K (.exit 9) (ste_baI_5 rw l 4 (elimM 6 4 m)) := by
  kernel_rfl
theorem ex_baI_5_4 {R : Type} (N M : Nat) (K : X → St → Option R) (rw : Bool) (l : List Nat) (m : Nat → Nat) : ktE_baI 1 N (bk_baI 1 N M K) (.exit 9) (ste_baI_5 rw l 4 m)
    = lpO_baI 1 N M (stO_baI_5 rw l 5 m) K := by
  kernel_rfl
theorem head_baI_5_5 {R : Type} (N M : Nat) (K : X → St → Option R) (rw : Bool) (l : List Nat) (m : Nat → Nat) : lpO_baI 1 N (M + 1) (stO_baI_5 rw l 5 m) K
    = K (.exit 5) (stX_baI_5 rw l m) := by
  kernel_rfl
theorem lo_baI_5_5 {R : Type} (M : Nat) (K : X → St → Option R) (rw : Bool) (l : List Nat) (Z : Option R) (hZ : ∀ m, K .ret (stR_baI_5 rw l m) = Z) (m : Nat → Nat) : lpO_baI 1 9 (M + 1) (stO_baI_5 rw l 5 m) K
    = match sol magB 6 5 0 5 m with | some m => K (.exit 5) (stX_baI_5 rw l m) | none => Z := by
  exact head_baI_5_5 9 M K rw l m
theorem lo_baI_5_4 {R : Type} (M : Nat) (K : X → St → Option R) (rw : Bool) (l : List Nat) (Z : Option R) (hZ : ∀ m, K .ret (stR_baI_5 rw l m) = Z) (m : Nat → Nat) : lpO_baI 1 9 (M + 2) (stO_baI_5 rw l 4 m) K
    = match sol magB 6 5 1 4 m with | some m => K (.exit 5) (stX_baI_5 rw l m) | none => Z := by
  refine Eq.trans (head_baI_5_4 9 (M + 1) K rw l m) ?_
  refine Eq.trans (se_baI_5_4_5_4 9 8 _ rw l m) ?_
  refine Eq.trans (sx_baI_5_4_4 9 (M + 1) K rw l m) ?_
  show _ = match (match eqB (m 28) 0 with | true => none | false => _ : Option (Nat → Nat)) with | some m => _ | none => _
  cases eqB (m 28) 0 with
  | true => exact hZ _
  | false => exact Eq.trans (el_baI_5_4 9 8 _ rw l (swapM 6 4 4 m)) (Eq.trans (ex_baI_5_4 9 (M + 1) K rw l _) (lo_baI_5_5 M K rw l Z hZ _))
theorem lo_baI_5_3 {R : Type} (M : Nat) (K : X → St → Option R) (rw : Bool) (l : List Nat) (Z : Option R) (hZ : ∀ m, K .ret (stR_baI_5 rw l m) = Z) (m : Nat → Nat) : lpO_baI 1 9 (M + 3) (stO_baI_5 rw l 3 m) K
    = match sol magB 6 5 2 3 m with | some m => K (.exit 5) (stX_baI_5 rw l m) | none => Z := by
  refine Eq.trans (head_baI_5_3 9 (M + 2) K rw l m) ?_
  refine Eq.trans (se_baI_5_3_4_3 9 7 _ rw l m) ?_
  have hlt : seaV magB 6 3 m 1 4 3 < 5 := seaV_le _ _ _ rfl (by decide)
  have hge : 3 ≤ seaV magB 6 3 m 1 4 3 := seaV_ge _ _ _ (by decide) (by decide)
  unfold sol bestM
  generalize hs : seaV magB 6 3 m 1 4 3 = a at hlt hge ⊢
  have hc : a = 3 ∨ a = 4 := by omega
  rcases hc with rfl | rfl
  · refine Eq.trans (sx_baI_5_3_3 9 (M + 2) K rw l m) ?_
    show _ = match (match eqB (m 21) 0 with | true => none | false => _ : Option (Nat → Nat)) with | some m => _ | none => _
    cases eqB (m 21) 0 with
    | true => exact hZ _
    | false => exact Eq.trans (el_baI_5_3 9 7 _ rw l (swapM 6 3 3 m)) (Eq.trans (ex_baI_5_3 9 (M + 2) K rw l _) (lo_baI_5_4 M K rw l Z hZ _))
  · refine Eq.trans (sx_baI_5_3_4 9 (M + 2) K rw l m) ?_
    show _ = match (match eqB (m 27) 0 with | true => none | false => _ : Option (Nat → Nat)) with | some m => _ | none => _
    cases eqB (m 27) 0 with
    | true => exact hZ _
    | false => exact Eq.trans (el_baI_5_3 9 7 _ rw l (swapM 6 3 4 m)) (Eq.trans (ex_baI_5_3 9 (M + 2) K rw l _) (lo_baI_5_4 M K rw l Z hZ _))
theorem lo_baI_5_2 {R : Type} (M : Nat) (K : X → St → Option R) (rw : Bool) (l : List Nat) (Z : Option R) (hZ : ∀ m, K .ret (stR_baI_5 rw l m) = Z) (m : Nat → Nat) : lpO_baI 1 9 (M + 4) (stO_baI_5 rw l 2 m) K
    = match sol magB 6 5 3 2 m with | some m => K (.exit 5) (stX_baI_5 rw l m) | none => Z := by
  refine Eq.trans (head_baI_5_2 9 (M + 3) K rw l m) ?_
  refine Eq.trans (se_baI_5_2_3_2 9 6 _ rw l m) ?_
  have hlt : seaV magB 6 2 m 2 3 2 < 5 := seaV_le _ _ _ rfl (by decide)
  have hge : 2 ≤ seaV magB 6 2 m 2 3 2 := seaV_ge _ _ _ (by decide) (by decide)
  unfold sol bestM
  generalize hs : seaV magB 6 2 m 2 3 2 = a at hlt hge ⊢
  have hc : a = 2 ∨ a = 3 ∨ a = 4 := by omega
  rcases hc with rfl | rfl | rfl
  · refine Eq.trans (sx_baI_5_2_2 9 (M + 3) K rw l m) ?_
    show _ = match (match eqB (m 14) 0 with | true => none | false => _ : Option (Nat → Nat)) with | some m => _ | none => _
    cases eqB (m 14) 0 with
    | true => exact hZ _
    | false => exact Eq.trans (el_baI_5_2 9 6 _ rw l (swapM 6 2 2 m)) (Eq.trans (ex_baI_5_2 9 (M + 3) K rw l _) (lo_baI_5_3 M K rw l Z hZ _))
  · refine Eq.trans (sx_baI_5_2_3 9 (M + 3) K rw l m) ?_
    show _ = match (match eqB (m 20) 0 with | true => none | false => _ : Option (Nat → Nat)) with | some m => _ | none => _
    cases eqB (m 20) 0 with
    | true => exact hZ _
    | false => exact Eq.trans (el_baI_5_2 9 6 _ rw l (swapM 6 2 3 m)) (Eq.trans (ex_baI_5_2 9 (M + 3) K rw l _) (lo_baI_5_3 M K rw l Z hZ _))
  · refine Eq.trans (sx_baI_5_2_4 9 (M + 3) K rw l m) ?_
    show _ = match (match eqB (m 26) 0 with | true => none | false => _ : Option (Nat → Nat)) with | some m => _ | none => _
    cases eqB (m 26) 0 with
    | true => exact hZ _
    | false => exact Eq.trans (el_baI_5_2 9 6 _ rw l (swapM 6 2 4 m)) (Eq.trans (ex_baI_5_2 9 (M + 3) K rw l _) (lo_baI_5_3 M K rw l Z hZ _))
theorem lo_baI_5_1 {R : Type} (M : Nat) (K : X → St → Option R) (rw : Bool) (l : List Nat) (Z : Option R) (hZ : ∀ m, K .ret (stR_baI_5 rw l m) = Z) (m : Nat → Nat) : lpO_baI 1 9 (M + 5) (stO_baI_5 rw l 1 m) K
    = match sol magB 6 5 4 1 m with | some m => K (.exit 5) (stX_baI_5 rw l m) | none => Z := by
  refine Eq.trans (head_baI_5_1 9 (M + 4) K rw l m) ?_
  refine Eq.trans (se_baI_5_1_2_1 9 5 _ rw l m) ?_
  have hlt : seaV magB 6 1 m 3 2 1 < 5 := seaV_le _ _ _ rfl (by decide)
  have hge : 1 ≤ seaV magB 6 1 m 3 2 1 := seaV_ge _ _ _ (by decide) (by decide)
  unfold sol bestM
  generalize hs : seaV magB 6 1 m 3 2 1 = a at hlt hge ⊢
  have hc : a = 1 ∨ a = 2 ∨ a = 3 ∨ a = 4 := by omega
  rcases hc with rfl | rfl | rfl | rfl
  · refine Eq.trans (sx_baI_5_1_1 9 (M + 4) K rw l m) ?_
    show _ = match (match eqB (m 7) 0 with | true => none | false => _ : Option (Nat → Nat)) with | some m => _ | none => _
    cases eqB (m 7) 0 with
    | true => exact hZ _
    | false => exact Eq.trans (el_baI_5_1 9 5 _ rw l (swapM 6 1 1 m)) (Eq.trans (ex_baI_5_1 9 (M + 4) K rw l _) (lo_baI_5_2 M K rw l Z hZ _))
  · refine Eq.trans (sx_baI_5_1_2 9 (M + 4) K rw l m) ?_
    show _ = match (match eqB (m 13) 0 with | true => none | false => _ : Option (Nat → Nat)) with | some m => _ | none => _
    cases eqB (m 13) 0 with
    | true => exact hZ _
    | false => exact Eq.trans (el_baI_5_1 9 5 _ rw l (swapM 6 1 2 m)) (Eq.trans (ex_baI_5_1 9 (M + 4) K rw l _) (lo_baI_5_2 M K rw l Z hZ _))
  · refine Eq.trans (sx_baI_5_1_3 9 (M + 4) K rw l m) ?_
    show _ = match (match eqB (m 19) 0 with | true => none | false => _ : Option (Nat → Nat)) with | some m => _ | none => _
    cases eqB (m 19) 0 with
    | true => exact hZ _
    | false => exact Eq.trans (el_baI_5_1 9 5 _ rw l (swapM 6 1 3 m)) (Eq.trans (ex_baI_5_1 9 (M + 4) K rw l _) (lo_baI_5_2 M K rw l Z hZ _))
  · refine Eq.trans (sx_baI_5_1_4 9 (M + 4) K rw l m) ?_
    show _ = match (match eqB (m 25) 0 with | true => none | false => _ : Option (Nat → Nat)) with | some m => _ | none => _
    cases eqB (m 25) 0 with
    | true => exact hZ _
    | false => exact Eq.trans (el_baI_5_1 9 5 _ rw l (swapM 6 1 4 m)) (Eq.trans (ex_baI_5_1 9 (M + 4) K rw l _) (lo_baI_5_2 M K rw l Z hZ _))
theorem lo_baI_5_0 {R : Type} (M : Nat) (K : X → St → Option R) (rw : Bool) (l : List Nat) (Z : Option R) (hZ : ∀ m, K .ret (stR_baI_5 rw l m) = Z) (m : Nat → Nat) : lpO_baI 1 9 (M + 6) (stO_baI_5 rw l 0 m) K
    = match sol magB 6 5 5 0 m with | some m => K (.exit 5) (stX_baI_5 rw l m) | none => Z := by
  refine Eq.trans (head_baI_5_0 9 (M + 5) K rw l m) ?_
  refine Eq.trans (se_baI_5_0_1_0 9 4 _ rw l m) ?_
  have hlt : seaV magB 6 0 m 4 1 0 < 5 := seaV_le _ _ _ rfl (by decide)
  have hge : 0 ≤ seaV magB 6 0 m 4 1 0 := seaV_ge _ _ _ (by decide) (by decide)
  unfold sol bestM
  generalize hs : seaV magB 6 0 m 4 1 0 = a at hlt hge ⊢
  have hc : a = 0 ∨ a = 1 ∨ a = 2 ∨ a = 3 ∨ a = 4 := by omega
  rcases hc with rfl | rfl | rfl | rfl | rfl
  · refine Eq.trans (sx_baI_5_0_0 9 (M + 5) K rw l m) ?_
    show _ = match (match eqB (m 0) 0 with | true => none | false => _ : Option (Nat → Nat)) with | some m => _ | none => _
    cases eqB (m 0) 0 with
    | true => exact hZ _
    | false => exact Eq.trans (el_baI_5_0 9 4 _ rw l (swapM 6 0 0 m)) (Eq.trans (ex_baI_5_0 9 (M + 5) K rw l _) (lo_baI_5_1 M K rw l Z hZ _))
  · refine Eq.trans (sx_baI_5_0_1 9 (M + 5) K rw l m) ?_
    show _ = match (match eqB (m 6) 0 with | true => none | false => _ : Option (Nat → Nat)) with | some m => _ | none => _
    cases eqB (m 6) 0 with
    | true => exact hZ _
    | false => exact Eq.trans (el_baI_5_0 9 4 _ rw l (swapM 6 0 1 m)) (Eq.trans (ex_baI_5_0 9 (M + 5) K rw l _) (lo_baI_5_1 M K rw l Z hZ _))
  · refine Eq.trans (sx_baI_5_0_2 9 (M + 5) K rw l m) ?_
    show _ = match (match eqB (m 12) 0 with | true => none | false => _ : Option (Nat → Nat)) with | some m => _ | none => _
    cases eqB (m 12) 0 with
    | true => exact hZ _
    | false => exact Eq.trans (el_baI_5_0 9 4 _ rw l (swapM 6 0 2 m)) (Eq.trans (ex_baI_5_0 9 (M + 5) K rw l _) (lo_baI_5_1 M K rw l Z hZ _))
  · refine Eq.trans (sx_baI_5_0_3 9 (M + 5) K rw l m) ?_
    show _ = match (match eqB (m 18) 0 with | true => none | false => _ : Option (Nat → Nat)) with | some m => _ | none => _
    cases eqB (m 18) 0 with
    | true => exact hZ _
    | false => exact Eq.trans (el_baI_5_0 9 4 _ rw l (swapM 6 0 3 m)) (Eq.trans (ex_baI_5_0 9 (M + 5) K rw l _) (lo_baI_5_1 M K rw l Z hZ _))
  · refine Eq.trans (sx_baI_5_0_4 9 (M + 5) K rw l m) ?_
    show _ = match (match eqB (m 24) 0 with | true => none | false => _ : Option (Nat → Nat)) with | some m => _ | none => _
    cases eqB (m 24) 0 with
    | true => exact hZ _
    | false => exact Eq.trans (el_baI_5_0 9 4 _ rw l (swapM 6 0 4 m)) (Eq.trans (ex_baI_5_0 9 (M + 5) K rw l _) (lo_baI_5_1 M K rw l Z hZ _))
theorem run_baI_5 (N : Nat) (rw : Bool) (a : Nat → Nat) : run ty tab_baI an_baI N Try.f6 [.int .i64 5, .sl 0 0 25] [.at rw (.fl .f32 (rts 25 a))]
    = (match decide ((rts 25 a).length = 25 ∧ 25 < 2147483648) with | true => (match !(ratesB 5 (rts 25 a)) with | true => some (.tup [.a (.nil), .a (.bool false)], [.at rw (.fl .f32 (rts 25 a))]) | false => (match outOk 5 25 (rts 25 a) 0 with | true => (match outOk 5 25 (rts 25 a) 1 with | true => (match outOk 5 25 (rts 25 a) 2 with | true => (match outOk 5 25 (rts 25 a) 3 with | true => lpO_baI 1 N N (stO_baI_5 rw (rts 25 a) 0 (mI 5 (rts 25 a))) (ktO_baI 1 N (kEnd Try.f6 1)) | false => none) | false => none) | false => none) | false => none)) | false => none) := by
  kernel_rfl
theorem end_baI_5 (N : Nat) (rw : Bool) (l : List Nat) (m : Nat → Nat) : ktO_baI 1 N (kEnd Try.f6 1) (.exit 5) (stX_baI_5 rw l m)
    = (match decide ((bkL 6 5 m 5).length = 5 ∧ 5 < 2147483648) with | true => (match (bkL 6 5 m 5).all finB with | true => some (.tup [.a (.sl 1 0 5), .a (.bool true)], [.at rw (.fl .f32 l), .at true (.fl .f32 (bkL 6 5 m 5))]) | false => some (.tup [.a (.nil), .a (.bool false)], [.at rw (.fl .f32 l)])) | false => none) := by
  kernel_rfl
theorem endr_baI_5 (N : Nat) (rw : Bool) (l : List Nat) (m : Nat → Nat) : ktO_baI 1 N (kEnd Try.f6 1) .ret (stR_baI_5 rw l m)
    = some (.tup [.a (.nil), .a (.bool false)], [.at rw (.fl .f32 l)]) := by
  kernel_rfl
end Go.Proofs.Ytppdnhjcnjfppaa.Ab
