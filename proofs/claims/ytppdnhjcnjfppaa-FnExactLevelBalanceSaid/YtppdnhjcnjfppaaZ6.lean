/- What the proof names: lemmas and words, merged by a program from its parts. No condition. -/
import Derived.Test.YtppdnhjcnjfppaaZ2
namespace Go.Proofs.Ytppdnhjcnjfppaa.Ab
set_option linter.unusedVariables false
set_option linter.unusedSimpArgs false
open Go
def stO_baI_4 (rw : Bool) (l : List Nat) (k : Int) (m : Nat → Nat) : St := ⟨(.int .i64 4 :: .any :: .any :: .any :: .any :: .any :: .sl 1 0 4 :: (anys 73 (.int .i64 4 :: .int .i64 k :: (anys 150 [])))), [.at rw (.fl .f32 l), .at true (.as 1 [.sl 2 0 5, .sl 3 0 5, .sl 4 0 5, .sl 5 0 5]), .at true (.fl .f32 [m 0, m 1, m 2, m 3, m 4]), .at true (.fl .f32 [m 5, m 6, m 7, m 8, m 9]), .at true (.fl .f32 [m 10, m 11, m 12, m 13, m 14]), .at true (.fl .f32 [m 15, m 16, m 17, m 18, m 19])]⟩
def stS_baI_4 (rw : Bool) (l : List Nat) (k : Int) (i : Int) (a : Int) (m : Nat → Nat) : St := ⟨(.int .i64 4 :: .any :: .any :: .any :: .any :: .any :: .sl 1 0 4 :: .any :: .any :: .any :: .int .i64 k :: .int .i64 a :: .int .i64 i :: (anys 67 (.int .i64 4 :: .int .i64 k :: (anys 150 [])))), [.at rw (.fl .f32 l), .at true (.as 1 [.sl 2 0 5, .sl 3 0 5, .sl 4 0 5, .sl 5 0 5]), .at true (.fl .f32 [m 0, m 1, m 2, m 3, m 4]), .at true (.fl .f32 [m 5, m 6, m 7, m 8, m 9]), .at true (.fl .f32 [m 10, m 11, m 12, m 13, m 14]), .at true (.fl .f32 [m 15, m 16, m 17, m 18, m 19])]⟩
def sts_baI_4 (rw : Bool) (l : List Nat) (k : Int) (a : Int) (m : Nat → Nat) : St := ⟨(.int .i64 4 :: .any :: .any :: .any :: .any :: .any :: .sl 1 0 4 :: .any :: .any :: .any :: .int .i64 k :: .int .i64 a :: (anys 68 (.int .i64 4 :: .int .i64 k :: (anys 150 [])))), [.at rw (.fl .f32 l), .at true (.as 1 [.sl 2 0 5, .sl 3 0 5, .sl 4 0 5, .sl 5 0 5]), .at true (.fl .f32 [m 0, m 1, m 2, m 3, m 4]), .at true (.fl .f32 [m 5, m 6, m 7, m 8, m 9]), .at true (.fl .f32 [m 10, m 11, m 12, m 13, m 14]), .at true (.fl .f32 [m 15, m 16, m 17, m 18, m 19])]⟩
def stE_baI_4 (rw : Bool) (l : List Nat) (k : Int) (i : Int) (m : Nat → Nat) : St := ⟨(.int .i64 4 :: .any :: .any :: .any :: .any :: .any :: .sl 1 0 4 :: .any :: .any :: .any :: .int .i64 k :: .any :: .any :: .int .i64 i :: (anys 66 (.int .i64 4 :: .int .i64 k :: (anys 150 [])))), [.at rw (.fl .f32 l), .at true (.as 1 [.sl 2 0 5, .sl 3 0 5, .sl 4 0 5, .sl 5 0 5]), .at true (.fl .f32 [m 0, m 1, m 2, m 3, m 4]), .at true (.fl .f32 [m 5, m 6, m 7, m 8, m 9]), .at true (.fl .f32 [m 10, m 11, m 12, m 13, m 14]), .at true (.fl .f32 [m 15, m 16, m 17, m 18, m 19])]⟩
def ste_baI_4 (rw : Bool) (l : List Nat) (k : Int) (m : Nat → Nat) : St := ⟨(.int .i64 4 :: .any :: .any :: .any :: .any :: .any :: .sl 1 0 4 :: (anys 73 (.int .i64 4 :: .int .i64 k :: (anys 150 [])))), [.at rw (.fl .f32 l), .at true (.as 1 [.sl 2 0 5, .sl 3 0 5, .sl 4 0 5, .sl 5 0 5]), .at true (.fl .f32 [m 0, m 1, m 2, m 3, m 4]), .at true (.fl .f32 [m 5, m 6, m 7, m 8, m 9]), .at true (.fl .f32 [m 10, m 11, m 12, m 13, m 14]), .at true (.fl .f32 [m 15, m 16, m 17, m 18, m 19])]⟩
def stX_baI_4 (rw : Bool) (l : List Nat) (m : Nat → Nat) : St := ⟨(.int .i64 4 :: .any :: .any :: .any :: .any :: .any :: .sl 1 0 4 :: (anys 225 [])), [.at rw (.fl .f32 l), .at true (.as 1 [.sl 2 0 5, .sl 3 0 5, .sl 4 0 5, .sl 5 0 5]), .at true (.fl .f32 [m 0, m 1, m 2, m 3, m 4]), .at true (.fl .f32 [m 5, m 6, m 7, m 8, m 9]), .at true (.fl .f32 [m 10, m 11, m 12, m 13, m 14]), .at true (.fl .f32 [m 15, m 16, m 17, m 18, m 19])]⟩
def stR_baI_4 (rw : Bool) (l : List Nat) (m : Nat → Nat) : St := ⟨(.int .i64 4 :: .any :: .any :: .any :: .nil :: .bool false :: .sl 1 0 4 :: (anys 225 [])), [.at rw (.fl .f32 l), .at true (.as 1 [.sl 2 0 5, .sl 3 0 5, .sl 4 0 5, .sl 5 0 5]), .at true (.fl .f32 [m 0, m 1, m 2, m 3, m 4]), .at true (.fl .f32 [m 5, m 6, m 7, m 8, m 9]), .at true (.fl .f32 [m 10, m 11, m 12, m 13, m 14]), .at true (.fl .f32 [m 15, m 16, m 17, m 18, m 19])]⟩
theorem head_baI_4_0 {R : Type} (N M : Nat) (K : X → St → Option R) (rw : Bool) (l : List Nat) (m : Nat → Nat) : lpO_baI 1 N (M + 1) (stO_baI_4 rw l 0 m) K
    = lpS_baI 1 N N (stS_baI_4 rw l 0 1 0 m) (ktS_baI 1 N (bk_baI 1 N M K)) := by
  kernel_rfl
theorem se_baI_4_0_4_3 {R : Type} (N M : Nat) (K : X → St → Option R) (rw : Bool) (l : List Nat) (m : Nat → Nat) : lpS_baI 1 N (M + 1) (stS_baI_4 rw l 0 4 3 m) K
    = K (.exit 7) (sts_baI_4 rw l 0 3 m) := by
  kernel_rfl
theorem se_baI_4_0_4_2 {R : Type} (N M : Nat) (K : X → St → Option R) (rw : Bool) (l : List Nat) (m : Nat → Nat) : lpS_baI 1 N (M + 1) (stS_baI_4 rw l 0 4 2 m) K
    = K (.exit 7) (sts_baI_4 rw l 0 2 m) := by
  kernel_rfl
theorem se_baI_4_0_4_1 {R : Type} (N M : Nat) (K : X → St → Option R) (rw : Bool) (l : List Nat) (m : Nat → Nat) : lpS_baI 1 N (M + 1) (stS_baI_4 rw l 0 4 1 m) K
    = K (.exit 7) (sts_baI_4 rw l 0 1 m) := by
  kernel_rfl
theorem se_baI_4_0_4_0 {R : Type} (N M : Nat) (K : X → St → Option R) (rw : Bool) (l : List Nat) (m : Nat → Nat) : lpS_baI 1 N (M + 1) (stS_baI_4 rw l 0 4 0 m) K
    = K (.exit 7) (sts_baI_4 rw l 0 0 m) := by
  kernel_rfl
theorem sf_baI_4_0_3_2 {R : Type} (N M : Nat) (K : X → St → Option R) (rw : Bool) (l : List Nat) (m : Nat → Nat) : lpS_baI 1 N (M + 1) (stS_baI_4 rw l 0 3 2 m) K
    = match gtB (magB (m 15)) (magB (m 10)) with | true => lpS_baI 1 N M (stS_baI_4 rw l 0 4 3 m) K | false => lpS_baI 1 N M (stS_baI_4 rw l 0 4 2 m) K := by
  kernel_rfl
theorem se_baI_4_0_3_2 {R : Type} (N M : Nat) (K : X → St → Option R) (rw : Bool) (l : List Nat) (m : Nat → Nat) : lpS_baI 1 N (M + 2) (stS_baI_4 rw l 0 3 2 m) K
    = K (.exit 7) (sts_baI_4 rw l 0 ((seaV magB 5 0 m 1 3 2 : Nat) : Int) m) := by
  refine Eq.trans (sf_baI_4_0_3_2 N (M + 1) K rw l m) ?_
  unfold seaV
  show _ = K _ (sts_baI_4 rw l 0 ((match gtB (magB (m 15)) (magB (m 10)) with | true => _ | false => _ : Nat) : Int) m)
  cases gtB (magB (m 15)) (magB (m 10))
  · exact se_baI_4_0_4_2 N M K rw l m
  · exact se_baI_4_0_4_3 N M K rw l m
theorem sf_baI_4_0_3_1 {R : Type} (N M : Nat) (K : X → St → Option R) (rw : Bool) (l : List Nat) (m : Nat → Nat) : lpS_baI 1 N (M + 1) (stS_baI_4 rw l 0 3 1 m) K
    = match gtB (magB (m 15)) (magB (m 5)) with | true => lpS_baI 1 N M (stS_baI_4 rw l 0 4 3 m) K | false => lpS_baI 1 N M (stS_baI_4 rw l 0 4 1 m) K := by
  kernel_rfl
theorem se_baI_4_0_3_1 {R : Type} (N M : Nat) (K : X → St → Option R) (rw : Bool) (l : List Nat) (m : Nat → Nat) : lpS_baI 1 N (M + 2) (stS_baI_4 rw l 0 3 1 m) K
    = K (.exit 7) (sts_baI_4 rw l 0 ((seaV magB 5 0 m 1 3 1 : Nat) : Int) m) := by
  refine Eq.trans (sf_baI_4_0_3_1 N (M + 1) K rw l m) ?_
  unfold seaV
  show _ = K _ (sts_baI_4 rw l 0 ((match gtB (magB (m 15)) (magB (m 5)) with | true => _ | false => _ : Nat) : Int) m)
  cases gtB (magB (m 15)) (magB (m 5))
  · exact se_baI_4_0_4_1 N M K rw l m
  · exact se_baI_4_0_4_3 N M K rw l m
theorem sf_baI_4_0_3_0 {R : Type} (N M : Nat) (K : X → St → Option R) (rw : Bool) (l : List Nat) (m : Nat → Nat) : lpS_baI 1 N (M + 1) (stS_baI_4 rw l 0 3 0 m) K
    = match gtB (magB (m 15)) (magB (m 0)) with | true => lpS_baI 1 N M (stS_baI_4 rw l 0 4 3 m) K | false => lpS_baI 1 N M (stS_baI_4 rw l 0 4 0 m) K := by
  kernel_rfl
theorem se_baI_4_0_3_0 {R : Type} (N M : Nat) (K : X → St → Option R) (rw : Bool) (l : List Nat) (m : Nat → Nat) : lpS_baI 1 N (M + 2) (stS_baI_4 rw l 0 3 0 m) K
    = K (.exit 7) (sts_baI_4 rw l 0 ((seaV magB 5 0 m 1 3 0 : Nat) : Int) m) := by
  refine Eq.trans (sf_baI_4_0_3_0 N (M + 1) K rw l m) ?_
  unfold seaV
  show _ = K _ (sts_baI_4 rw l 0 ((match gtB (magB (m 15)) (magB (m 0)) with | true => _ | false => _ : Nat) : Int) m)
  cases gtB (magB (m 15)) (magB (m 0))
  · exact se_baI_4_0_4_0 N M K rw l m
  · exact se_baI_4_0_4_3 N M K rw l m
theorem sf_baI_4_0_2_1 {R : Type} (N M : Nat) (K : X → St → Option R) (rw : Bool) (l : List Nat) (m : Nat → Nat) : lpS_baI 1 N (M + 1) (stS_baI_4 rw l 0 2 1 m) K
    = match gtB (magB (m 10)) (magB (m 5)) with | true => lpS_baI 1 N M (stS_baI_4 rw l 0 3 2 m) K | false => lpS_baI 1 N M (stS_baI_4 rw l 0 3 1 m) K := by
  kernel_rfl
theorem se_baI_4_0_2_1 {R : Type} (N M : Nat) (K : X → St → Option R) (rw : Bool) (l : List Nat) (m : Nat → Nat) : lpS_baI 1 N (M + 3) (stS_baI_4 rw l 0 2 1 m) K
    = K (.exit 7) (sts_baI_4 rw l 0 ((seaV magB 5 0 m 2 2 1 : Nat) : Int) m) := by
  refine Eq.trans (sf_baI_4_0_2_1 N (M + 2) K rw l m) ?_
  unfold seaV
  show _ = K _ (sts_baI_4 rw l 0 ((match gtB (magB (m 10)) (magB (m 5)) with | true => _ | false => _ : Nat) : Int) m)
  cases gtB (magB (m 10)) (magB (m 5))
  · exact se_baI_4_0_3_1 N M K rw l m
  · exact se_baI_4_0_3_2 N M K rw l m
theorem sf_baI_4_0_2_0 {R : Type} (N M : Nat) (K : X → St → Option R) (rw : Bool) (l : List Nat) (m : Nat → Nat) : lpS_baI 1 N (M + 1) (stS_baI_4 rw l 0 2 0 m) K
    = match gtB (magB (m 10)) (magB (m 0)) with | true => lpS_baI 1 N M (stS_baI_4 rw l 0 3 2 m) K | false => lpS_baI 1 N M (stS_baI_4 rw l 0 3 0 m) K := by
  kernel_rfl
theorem se_baI_4_0_2_0 {R : Type} (N M : Nat) (K : X → St → Option R) (rw : Bool) (l : List Nat) (m : Nat → Nat) : lpS_baI 1 N (M + 3) (stS_baI_4 rw l 0 2 0 m) K
    = K (.exit 7) (sts_baI_4 rw l 0 ((seaV magB 5 0 m 2 2 0 : Nat) : Int) m) := by
  refine Eq.trans (sf_baI_4_0_2_0 N (M + 2) K rw l m) ?_
  unfold seaV
  show _ = K _ (sts_baI_4 rw l 0 ((match gtB (magB (m 10)) (magB (m 0)) with | true => _ | false => _ : Nat) : Int) m)
  cases gtB (magB (m 10)) (magB (m 0))
  · exact se_baI_4_0_3_0 N M K rw l m
  · exact se_baI_4_0_3_2 N M K rw l m
theorem sf_baI_4_0_1_0 {R : Type} (N M : Nat) (K : X → St → Option R) (rw : Bool) (l : List Nat) (m : Nat → Nat) : lpS_baI 1 N (M + 1) (stS_baI_4 rw l 0 1 0 m) K
    = match gtB (magB (m 5)) (magB (m 0)) with | true => lpS_baI 1 N M (stS_baI_4 rw l 0 2 1 m) K | false => lpS_baI 1 N M (stS_baI_4 rw l 0 2 0 m) K := by
  kernel_rfl
theorem se_baI_4_0_1_0 {R : Type} (N M : Nat) (K : X → St → Option R) (rw : Bool) (l : List Nat) (m : Nat → Nat) : lpS_baI 1 N (M + 4) (stS_baI_4 rw l 0 1 0 m) K
    = K (.exit 7) (sts_baI_4 rw l 0 ((seaV magB 5 0 m 3 1 0 : Nat) : Int) m) := by
  refine Eq.trans (sf_baI_4_0_1_0 N (M + 3) K rw l m) ?_
  unfold seaV
  show _ = K _ (sts_baI_4 rw l 0 ((match gtB (magB (m 5)) (magB (m 0)) with | true => _ | false => _ : Nat) : Int) m)
  cases gtB (magB (m 5)) (magB (m 0))
  · exact se_baI_4_0_2_0 N M K rw l m
  · exact se_baI_4_0_2_1 N M K rw l m
theorem sx_baI_4_0_0 {R : Type} (N M : Nat) (K : X → St → Option R) (rw : Bool) (l : List Nat) (m : Nat → Nat) : ktS_baI 1 N (bk_baI 1 N M K) (.exit 7) (sts_baI_4 rw l 0 0 m)
    = match eqB (m 0) 0 with | true => K .ret (stR_baI_4 rw l (swapM 5 0 0 m)) | false => lpE_baI 1 N N (stE_baI_4 rw l 0 1 (swapM 5 0 0 m)) (ktE_baI 1 N (bk_baI 1 N M K)) := by
  kernel_rfl
theorem sx_baI_4_0_1 {R : Type} (N M : Nat) (K : X → St → Option R) (rw : Bool) (l : List Nat) (m : Nat → Nat) : ktS_baI 1 N (bk_baI 1 N M K) (.exit 7) (sts_baI_4 rw l 0 1 m)
    = match eqB (m 5) 0 with | true => K .ret (stR_baI_4 rw l (swapM 5 0 1 m)) | false => lpE_baI 1 N N (stE_baI_4 rw l 0 1 (swapM 5 0 1 m)) (ktE_baI 1 N (bk_baI 1 N M K)) := by
  kernel_rfl
theorem sx_baI_4_0_2 {R : Type} (N M : Nat) (K : X → St → Option R) (rw : Bool) (l : List Nat) (m : Nat → Nat) : ktS_baI 1 N (bk_baI 1 N M K) (.exit 7) (sts_baI_4 rw l 0 2 m)
    = match eqB (m 10) 0 with | true => K .ret (stR_baI_4 rw l (swapM 5 0 2 m)) | false => lpE_baI 1 N N (stE_baI_4 rw l 0 1 (swapM 5 0 2 m)) (ktE_baI 1 N (bk_baI 1 N M K)) := by
  kernel_rfl
theorem sx_baI_4_0_3 {R : Type} (N M : Nat) (K : X → St → Option R) (rw : Bool) (l : List Nat) (m : Nat → Nat) : ktS_baI 1 N (bk_baI 1 N M K) (.exit 7) (sts_baI_4 rw l 0 3 m)
    = match eqB (m 15) 0 with | true => K .ret (stR_baI_4 rw l (swapM 5 0 3 m)) | false => lpE_baI 1 N N (stE_baI_4 rw l 0 1 (swapM 5 0 3 m)) (ktE_baI 1 N (bk_baI 1 N M K)) := by
  kernel_rfl
theorem el_baI_4_0 {R : Type} (N M : Nat) (K : X → St → Option R) (rw : Bool) (l : List Nat) (m : Nat → Nat) : lpE_baI 1 N (M + 4) (stE_baI_4 rw l 0 1 m) K
    = K (.exit 9) (ste_baI_4 rw l 0 (elimM 5 0 m)) := by
  kernel_rfl
theorem ex_baI_4_0 {R : Type} (N M : Nat) (K : X → St → Option R) (rw : Bool) (l : List Nat) (m : Nat → Nat) : ktE_baI 1 N (bk_baI 1 N M K) (.exit 9) (ste_baI_4 rw l 0 m)
    = lpO_baI 1 N M (stO_baI_4 rw l 1 m) K := by
  kernel_rfl
theorem head_baI_4_1 {R : Type} (N M : Nat) (K : X → St → Option R) (rw : Bool) (l : List Nat) (m : Nat → Nat) : lpO_baI 1 N (M + 1) (stO_baI_4 rw l 1 m) K
    = lpS_baI 1 N N (stS_baI_4 rw l 1 2 1 m) (ktS_baI 1 N (bk_baI 1 N M K)) := by
  kernel_rfl
theorem se_baI_4_1_4_3 {R : Type} (N M : Nat) (K : X → St → Option R) (rw : Bool) (l : List Nat) (m : Nat → Nat) : lpS_baI 1 N (M + 1) (stS_baI_4 rw l 1 4 3 m) K
    = K (.exit 7) (sts_baI_4 rw l 1 3 m) := by
  kernel_rfl
theorem se_baI_4_1_4_2 {R : Type} (N M : Nat) (K : X → St → Option R) (rw : Bool) (l : List Nat) (m : Nat → Nat) : lpS_baI 1 N (M + 1) (stS_baI_4 rw l 1 4 2 m) K
    = K (.exit 7) (sts_baI_4 rw l 1 2 m) := by
  kernel_rfl
theorem se_baI_4_1_4_1 {R : Type} (N M : Nat) (K : X → St → Option R) (rw : Bool) (l : List Nat) (m : Nat → Nat) : lpS_baI 1 N (M + 1) (stS_baI_4 rw l 1 4 1 m) K
    = K (.exit 7) (sts_baI_4 rw l 1 1 m) := by
  kernel_rfl
theorem sf_baI_4_1_3_2 {R : Type} (N M : Nat) (K : X → St → Option R) (rw : Bool) (l : List Nat) (m : Nat → Nat) : lpS_baI 1 N (M + 1) (stS_baI_4 rw l 1 3 2 m) K
    = match gtB (magB (m 16)) (magB (m 11)) with | true => lpS_baI 1 N M (stS_baI_4 rw l 1 4 3 m) K | false => lpS_baI 1 N M (stS_baI_4 rw l 1 4 2 m) K := by
  kernel_rfl
theorem se_baI_4_1_3_2 {R : Type} (N M : Nat) (K : X → St → Option R) (rw : Bool) (l : List Nat) (m : Nat → Nat) : lpS_baI 1 N (M + 2) (stS_baI_4 rw l 1 3 2 m) K
    = K (.exit 7) (sts_baI_4 rw l 1 ((seaV magB 5 1 m 1 3 2 : Nat) : Int) m) := by
  refine Eq.trans (sf_baI_4_1_3_2 N (M + 1) K rw l m) ?_
  unfold seaV
  show _ = K _ (sts_baI_4 rw l 1 ((match gtB (magB (m 16)) (magB (m 11)) with | true => _ | false => _ : Nat) : Int) m)
  cases gtB (magB (m 16)) (magB (m 11))
  · exact se_baI_4_1_4_2 N M K rw l m
  · exact se_baI_4_1_4_3 N M K rw l m
theorem sf_baI_4_1_3_1 {R : Type} (N M : Nat) (K : X → St → Option R) (rw : Bool) (l : List Nat) (m : Nat → Nat) : lpS_baI 1 N (M + 1) (stS_baI_4 rw l 1 3 1 m) K
    = match gtB (magB (m 16)) (magB (m 6)) with | true => lpS_baI 1 N M (stS_baI_4 rw l 1 4 3 m) K | false => lpS_baI 1 N M (stS_baI_4 rw l 1 4 1 m) K := by
  kernel_rfl
theorem se_baI_4_1_3_1 {R : Type} (N M : Nat) (K : X → St → Option R) (rw : Bool) (l : List Nat) (m : Nat → Nat) : lpS_baI 1 N (M + 2) (stS_baI_4 rw l 1 3 1 m) K
    = K (.exit 7) (sts_baI_4 rw l 1 ((seaV magB 5 1 m 1 3 1 : Nat) : Int) m) := by
  refine Eq.trans (sf_baI_4_1_3_1 N (M + 1) K rw l m) ?_
  unfold seaV
  show _ = K _ (sts_baI_4 rw l 1 ((match gtB (magB (m 16)) (magB (m 6)) with | true => _ | false => _ : Nat) : Int) m)
  cases gtB (magB (m 16)) (magB (m 6))
  · exact se_baI_4_1_4_1 N M K rw l m
  · exact se_baI_4_1_4_3 N M K rw l m
theorem sf_baI_4_1_2_1 {R : Type} (N M : Nat) (K : X → St → Option R) (rw : Bool) (l : List Nat) (m : Nat → Nat) : lpS_baI 1 N (M + 1) (stS_baI_4 rw l 1 2 1 m) K
    = match gtB (magB (m 11)) (magB (m 6)) with | true => lpS_baI 1 N M (stS_baI_4 rw l 1 3 2 m) K | false => lpS_baI 1 N M (stS_baI_4 rw l 1 3 1 m) K := by
  kernel_rfl
theorem se_baI_4_1_2_1 {R : Type} (N M : Nat) (K : X → St → Option R) (rw : Bool) (l : List Nat) (m : Nat → Nat) : lpS_baI 1 N (M + 3) (stS_baI_4 rw l 1 2 1 m) K
    = K (.exit 7) (sts_baI_4 rw l 1 ((seaV magB 5 1 m 2 2 1 : Nat) : Int) m) := by
  refine Eq.trans (sf_baI_4_1_2_1 N (M + 2) K rw l m) ?_
  unfold seaV
  show _ = K _ (sts_baI_4 rw l 1 ((match gtB (magB (m 11)) (magB (m 6)) with | true => _ | false => _ : Nat) : Int) m)
  cases gtB (magB (m 11)) (magB (m 6))
  · exact se_baI_4_1_3_1 N M K rw l m
  · exact se_baI_4_1_3_2 N M K rw l m
theorem sx_baI_4_1_1 {R : Type} (N M : Nat) (K : X → St → Option R) (rw : Bool) (l : List Nat) (m : Nat → Nat) : ktS_baI 1 N (bk_baI 1 N M K) (.exit 7) (sts_baI_4 rw l 1 1 m)
    = match eqB (m 6) 0 with | true => K .ret (stR_baI_4 rw l (swapM 5 1 1 m)) | false => lpE_baI 1 N N (stE_baI_4 rw l 1 2 (swapM 5 1 1 m)) (ktE_baI 1 N (bk_baI 1 N M K)) := by
  kernel_rfl
theorem sx_baI_4_1_2 {R : Type} (N M : Nat) (K : X → St → Option R) (rw : Bool) (l : List Nat) (m : Nat → Nat) : ktS_baI 1 N (bk_baI 1 N M K) (.exit 7) (sts_baI_4 rw l 1 2 m)
    = match eqB (m 11) 0 with | true => K .ret (stR_baI_4 rw l (swapM 5 1 2 m)) | false => lpE_baI 1 N N (stE_baI_4 rw l 1 2 (swapM 5 1 2 m)) (ktE_baI 1 N (bk_baI 1 N M K)) := by
  kernel_rfl
theorem sx_baI_4_1_3 {R : Type} (N M : Nat) (K : X → St → Option R) (rw : Bool) (l : List Nat) (m : Nat → Nat) : ktS_baI 1 N (bk_baI 1 N M K) (.exit 7) (sts_baI_4 rw l 1 3 m)
    = match eqB (m 16) 0 with | true => K .ret (stR_baI_4 rw l (swapM 5 1 3 m)) | false => lpE_baI 1 N N (stE_baI_4 rw l 1 2 (swapM 5 1 3 m)) (ktE_baI 1 N (bk_baI 1 N M K)) := by
  kernel_rfl
theorem el_baI_4_1 {R : Type} (N M : Nat) (K : X → St → Option R) (rw : Bool) (l : List Nat) (m : Nat → Nat) : lpE_baI 1 N (M + 3) (stE_baI_4 rw l 1 2 m) K
    = K (.exit 9) (ste_baI_4 rw l 1 (elimM 5 1 m)) := by
  kernel_rfl
theorem ex_baI_4_1 {R : Type} (N M : Nat) (K : X → St → Option R) (rw : Bool) (l : List Nat) (m : Nat → Nat) : ktE_baI 1 N (bk_baI 1 N M K) (.exit 9) (ste_baI_4 rw l 1 m)
    = lpO_baI 1 N M (stO_baI_4 rw l 2 m) K := by
  kernel_rfl
theorem head_baI_4_2 {R : Type} (N M : Nat) (K : X → St → Option R) (rw : Bool) (l : List Nat) (m : Nat → Nat) : lpO_baI 1 N (M + 1) (stO_baI_4 rw l 2 m) K
    = lpS_baI 1 N N (stS_baI_4 rw l 2 3 2 m) (ktS_baI 1 N (bk_baI 1 N M K)) := by
  kernel_rfl
theorem se_baI_4_2_4_3 {R : Type} (N M : Nat) (K : X → St → Option R) (rw : Bool) (l : List Nat) (m : Nat → Nat) : lpS_baI 1 N (M + 1) (stS_baI_4 rw l 2 4 3 m) K
    = K (.exit 7) (sts_baI_4 rw l 2 3 m) := by
  kernel_rfl
theorem se_baI_4_2_4_2 {R : Type} (N M : Nat) (K : X → St → Option R) (rw : Bool) (l : List Nat) (m : Nat → Nat) : lpS_baI 1 N (M + 1) (stS_baI_4 rw l 2 4 2 m) K
    = K (.exit 7) (sts_baI_4 rw l 2 2 m) := by
  kernel_rfl
theorem sf_baI_4_2_3_2 {R : Type} (N M : Nat) (K : X → St → Option R) (rw : Bool) (l : List Nat) (m : Nat → Nat) : lpS_baI 1 N (M + 1) (stS_baI_4 rw l 2 3 2 m) K
    = match gtB (magB (m 17)) (magB (m 12)) with | true => lpS_baI 1 N M (stS_baI_4 rw l 2 4 3 m) K | false => lpS_baI 1 N M (stS_baI_4 rw l 2 4 2 m) K := by
  kernel_rfl
theorem se_baI_4_2_3_2 {R : Type} (N M : Nat) (K : X → St → Option R) (rw : Bool) (l : List Nat) (m : Nat → Nat) : lpS_baI 1 N (M + 2) (stS_baI_4 rw l 2 3 2 m) K
    = K (.exit 7) (sts_baI_4 rw l 2 ((seaV magB 5 2 m 1 3 2 : Nat) : Int) m) := by
  refine Eq.trans (sf_baI_4_2_3_2 N (M + 1) K rw l m) ?_
  unfold seaV
  show _ = K _ (sts_baI_4 rw l 2 ((match gtB (magB (m 17)) (magB (m 12)) with | true => _ | false => _ : Nat) : Int) m)
  cases gtB (magB (m 17)) (magB (m 12))
  · exact se_baI_4_2_4_2 N M K rw l m
  · exact se_baI_4_2_4_3 N M K rw l m
theorem sx_baI_4_2_2 {R : Type} (N M : Nat) (K : X → St → Option R) (rw : Bool) (l : List Nat) (m : Nat → Nat) : ktS_baI 1 N (bk_baI 1 N M K) (.exit 7) (sts_baI_4 rw l 2 2 m)
    = match eqB (m 12) 0 with | true => K .ret (stR_baI_4 rw l (swapM 5 2 2 m)) | false => lpE_baI 1 N N (stE_baI_4 rw l 2 3 (swapM 5 2 2 m)) (ktE_baI 1 N (bk_baI 1 N M K)) := by
  kernel_rfl
theorem sx_baI_4_2_3 {R : Type} (N M : Nat) (K : X → St → Option R) (rw : Bool) (l : List Nat) (m : Nat → Nat) : ktS_baI 1 N (bk_baI 1 N M K) (.exit 7) (sts_baI_4 rw l 2 3 m)
    = match eqB (m 17) 0 with | true => K .ret (stR_baI_4 rw l (swapM 5 2 3 m)) | false => lpE_baI 1 N N (stE_baI_4 rw l 2 3 (swapM 5 2 3 m)) (ktE_baI 1 N (bk_baI 1 N M K)) := by
  kernel_rfl
theorem el_baI_4_2 {R : Type} (N M : Nat) (K : X → St → Option R) (rw : Bool) (l : List Nat) (m : Nat → Nat) : lpE_baI 1 N (M + 2) (stE_baI_4 rw l 2 3 m) K
    = K (.exit 9) (ste_baI_4 rw l 2 (elimM 5 2 m)) := by
  kernel_rfl
theorem ex_baI_4_2 {R : Type} (N M : Nat) (K : X → St → Option R) (rw : Bool) (l : List Nat) (m : Nat → Nat) : ktE_baI 1 N (bk_baI 1 N M K) (.exit 9) (ste_baI_4 rw l 2 m)
    = lpO_baI 1 N M (stO_baI_4 rw l 3 m) K := by
  kernel_rfl
theorem head_baI_4_3 {R : Type} (N M : Nat) (K : X → St → Option R) (rw : Bool) (l : List Nat) (m : Nat → Nat) : lpO_baI 1 N (M + 1) (stO_baI_4 rw l 3 m) K
    = lpS_baI 1 N N (stS_baI_4 rw l 3 4 3 m) (ktS_baI 1 N (bk_baI 1 N M K)) := by
  kernel_rfl
theorem se_baI_4_3_4_3 {R : Type} (N M : Nat) (K : X → St → Option R) (rw : Bool) (l : List Nat) (m : Nat → Nat) : lpS_baI 1 N (M + 1) (stS_baI_4 rw l 3 4 3 m) K
    = K (.exit 7) (sts_baI_4 rw l 3 3 m) := by
  kernel_rfl
theorem sx_baI_4_3_3 {R : Type} (N M : Nat) (K : X → St → Option R) (rw : Bool) (l : List Nat) (m : Nat → Nat) : ktS_baI 1 N (bk_baI 1 N M K) (.exit 7) (sts_baI_4 rw l 3 3 m)
    = match eqB (m 18) 0 with | true => K .ret (stR_baI_4 rw l (swapM 5 3 3 m)) | false => lpE_baI 1 N N (stE_baI_4 rw l 3 4 (swapM 5 3 3 m)) (ktE_baI 1 N (bk_baI 1 N M K)) := by
  kernel_rfl
theorem el_baI_4_3 {R : Type} (N M : Nat) (K : X → St → Option R) (rw : Bool) (l : List Nat) (m : Nat → Nat) : lpE_baI 1 N (M + 1) (stE_baI_4 rw l 3 4 m) K
    = K (.exit 9) (ste_baI_4 rw l 3 (elimM 5 3 m)) := by
  kernel_rfl
theorem ex_baI_4_3 {R : Type} (N M : Nat) (K : X → St → Option R) (rw : Bool) (l : List Nat) (m : Nat → Nat) : ktE_baI 1 N (bk_baI 1 N M K) (.exit 9) (ste_baI_4 rw l 3 m)
    = lpO_baI 1 N M (stO_baI_4 rw l 4 m) K := by
  kernel_rfl
theorem head_baI_4_4 {R : Type} (N M : Nat) (K : X → St → Option R) (rw : Bool) (l : List Nat) (m : Nat → Nat) : lpO_baI 1 N (M + 1) (stO_baI_4 rw l 4 m) K
    = K (.exit 5) (stX_baI_4 rw l m) := by
  kernel_rfl
theorem lo_baI_4_4 {R : Type} (M : Nat) (K : X → St → Option R) (rw : Bool) (l : List Nat) (Z : Option R) (hZ : ∀ m, K .ret (stR_baI_4 rw l m) = Z) (m : Nat → Nat) : lpO_baI 1 9 (M + 1) (stO_baI_4 rw l 4 m) K
    = match sol magB 5 4 0 4 m with | some m => K (.exit 5) (stX_baI_4 rw l m) | none => Z := by
  exact head_baI_4_4 9 M K rw l m
theorem lo_baI_4_3 {R : Type} (M : Nat) (K : X → St → Option R) (rw : Bool) (l : List Nat) (Z : Option R) (hZ : ∀ m, K .ret (stR_baI_4 rw l m) = Z) (m : Nat → Nat) : lpO_baI 1 9 (M + 2) (stO_baI_4 rw l 3 m) K
    = match sol magB 5 4 1 3 m with | some m => K (.exit 5) (stX_baI_4 rw l m) | none => Z := by
  refine Eq.trans (head_baI_4_3 9 (M + 1) K rw l m) ?_
  refine Eq.trans (se_baI_4_3_4_3 9 8 _ rw l m) ?_
  refine Eq.trans (sx_baI_4_3_3 9 (M + 1) K rw l m) ?_
  show _ = match (match eqB (m 18) 0 with | true => none | false => _ : Option (Nat → Nat)) with | some m => _ | none => _
  cases eqB (m 18) 0 with
  | true => exact hZ _
  | false => exact Eq.trans (el_baI_4_3 9 8 _ rw l (swapM 5 3 3 m)) (Eq.trans (ex_baI_4_3 9 (M + 1) K rw l _) (lo_baI_4_4 M K rw l Z hZ _))
theorem lo_baI_4_2 {R : Type} (M : Nat) (K : X → St → Option R) (rw : Bool) (l : List Nat) (Z : Option R) (hZ : ∀ m, K .ret (stR_baI_4 rw l m) = Z) (m : Nat → Nat) : lpO_baI 1 9 (M + 3) (stO_baI_4 rw l 2 m) K
    = match sol magB 5 4 2 2 m with | some m => K (.exit 5) (stX_baI_4 rw l m) | none => Z := by
  refine Eq.trans (head_baI_4_2 9 (M + 2) K rw l m) ?_
  refine Eq.trans (se_baI_4_2_3_2 9 7 _ rw l m) ?_
  have hlt : seaV magB 5 2 m 1 3 2 < 4 := seaV_le _ _ _ rfl (by decide)
  have hge : 2 ≤ seaV magB 5 2 m 1 3 2 := seaV_ge _ _ _ (by decide) (by decide)
  unfold sol bestM
  generalize hs : seaV magB 5 2 m 1 3 2 = a at hlt hge ⊢
  have hc : a = 2 ∨ a = 3 := by omega
  rcases hc with rfl | rfl
  · refine Eq.trans (sx_baI_4_2_2 9 (M + 2) K rw l m) ?_
    show _ = match (match eqB (m 12) 0 with | true => none | false => _ : Option (Nat → Nat)) with | some m => _ | none => _
    cases eqB (m 12) 0 with
    | true => exact hZ _
    | false => exact Eq.trans (el_baI_4_2 9 7 _ rw l (swapM 5 2 2 m)) (Eq.trans (ex_baI_4_2 9 (M + 2) K rw l _) (lo_baI_4_3 M K rw l Z hZ _))
  · refine Eq.trans (sx_baI_4_2_3 9 (M + 2) K rw l m) ?_
    show _ = match (match eqB (m 17) 0 with | true => none | false => _ : Option (Nat → Nat)) with | some m => _ | none => _
    cases eqB (m 17) 0 with
    | true => exact hZ _
    | false => exact Eq.trans (el_baI_4_2 9 7 _ rw l (swapM 5 2 3 m)) (Eq.trans (ex_baI_4_2 9 (M + 2) K rw l _) (lo_baI_4_3 M K rw l Z hZ _))
theorem lo_baI_4_1 {R : Type} (M : Nat) (K : X → St → Option R) (rw : Bool) (l : List Nat) (Z : Option R) (hZ : ∀ m, K .ret (stR_baI_4 rw l m) = Z) (m : Nat → Nat) : lpO_baI 1 9 (M + 4) (stO_baI_4 rw l 1 m) K
    = match sol magB 5 4 3 1 m with | some m => K (.exit 5) (stX_baI_4 rw l m) | none => Z := by
  refine Eq.trans (head_baI_4_1 9 (M + 3) K rw l m) ?_
  refine Eq.trans (se_baI_4_1_2_1 9 6 _ rw l m) ?_
  have hlt : seaV magB 5 1 m 2 2 1 < 4 := seaV_le _ _ _ rfl (by decide)
  have hge : 1 ≤ seaV magB 5 1 m 2 2 1 := seaV_ge _ _ _ (by decide) (by decide)
  unfold sol bestM
  generalize hs : seaV magB 5 1 m 2 2 1 = a at hlt hge ⊢
  have hc : a = 1 ∨ a = 2 ∨ a = 3 := by omega
  rcases hc with rfl | rfl | rfl
  · refine Eq.trans (sx_baI_4_1_1 9 (M + 3) K rw l m) ?_
    show _ = match (match eqB (m 6) 0 with | true => none | false => _ : Option (Nat → Nat)) with | some m => _ | none => _
    cases eqB (m 6) 0 with
    | true => exact hZ _
    | false => exact Eq.trans (el_baI_4_1 9 6 _ rw l (swapM 5 1 1 m)) (Eq.trans (ex_baI_4_1 9 (M + 3) K rw l _) (lo_baI_4_2 M K rw l Z hZ _))
  · refine Eq.trans (sx_baI_4_1_2 9 (M + 3) K rw l m) ?_
    show _ = match (match eqB (m 11) 0 with | true => none | false => _ : Option (Nat → Nat)) with | some m => _ | none => _
    cases eqB (m 11) 0 with
    | true => exact hZ _
    | false => exact Eq.trans (el_baI_4_1 9 6 _ rw l (swapM 5 1 2 m)) (Eq.trans (ex_baI_4_1 9 (M + 3) K rw l _) (lo_baI_4_2 M K rw l Z hZ _))
  · refine Eq.trans (sx_baI_4_1_3 9 (M + 3) K rw l m) ?_
    show _ = match (match eqB (m 16) 0 with | true => none | false => _ : Option (Nat → Nat)) with | some m => _ | none => _
    cases eqB (m 16) 0 with
    | true => exact hZ _
    | false => exact Eq.trans (el_baI_4_1 9 6 _ rw l (swapM 5 1 3 m)) (Eq.trans (ex_baI_4_1 9 (M + 3) K rw l _) (lo_baI_4_2 M K rw l Z hZ _))
theorem lo_baI_4_0 {R : Type} (M : Nat) (K : X → St → Option R) (rw : Bool) (l : List Nat) (Z : Option R) (hZ : ∀ m, K .ret (stR_baI_4 rw l m) = Z) (m : Nat → Nat) : lpO_baI 1 9 (M + 5) (stO_baI_4 rw l 0 m) K
    = match sol magB 5 4 4 0 m with | some m => K (.exit 5) (stX_baI_4 rw l m) | none => Z := by
  refine Eq.trans (head_baI_4_0 9 (M + 4) K rw l m) ?_
  refine Eq.trans (se_baI_4_0_1_0 9 5 _ rw l m) ?_
  have hlt : seaV magB 5 0 m 3 1 0 < 4 := seaV_le _ _ _ rfl (by decide)
  have hge : 0 ≤ seaV magB 5 0 m 3 1 0 := seaV_ge _ _ _ (by decide) (by decide)
  unfold sol bestM
  generalize hs : seaV magB 5 0 m 3 1 0 = a at hlt hge ⊢
  have hc : a = 0 ∨ a = 1 ∨ a = 2 ∨ a = 3 := by omega
  rcases hc with rfl | rfl | rfl | rfl
  · refine Eq.trans (sx_baI_4_0_0 9 (M + 4) K rw l m) ?_
    show _ = match (match eqB (m 0) 0 with | true => none | false => _ : Option (Nat → Nat)) with | some m => _ | none => _
    cases eqB (m 0) 0 with
    | true => exact hZ _
    | false => exact Eq.trans (el_baI_4_0 9 5 _ rw l (swapM 5 0 0 m)) (Eq.trans (ex_baI_4_0 9 (M + 4) K rw l _) (lo_baI_4_1 M K rw l Z hZ _))
  · refine Eq.trans (sx_baI_4_0_1 9 (M + 4) K rw l m) ?_
    show _ = match (match eqB (m 5) 0 with | true => none | false => _ : Option (Nat → Nat)) with | some m => _ | none => _
    cases eqB (m 5) 0 with
    | true => exact hZ _
    | false => exact Eq.trans (el_baI_4_0 9 5 _ rw l (swapM 5 0 1 m)) (Eq.trans (ex_baI_4_0 9 (M + 4) K rw l _) (lo_baI_4_1 M K rw l Z hZ _))
  · refine Eq.trans (sx_baI_4_0_2 9 (M + 4) K rw l m) ?_
    show _ = match (match eqB (m 10) 0 with | true => none | false => _ : Option (Nat → Nat)) with | some m => _ | none => _
    cases eqB (m 10) 0 with
    | true => exact hZ _
    | false => exact Eq.trans (el_baI_4_0 9 5 _ rw l (swapM 5 0 2 m)) (Eq.trans (ex_baI_4_0 9 (M + 4) K rw l _) (lo_baI_4_1 M K rw l Z hZ _))
  · refine Eq.trans (sx_baI_4_0_3 9 (M + 4) K rw l m) ?_
    show _ = match (match eqB (m 15) 0 with | true => none | false => _ : Option (Nat → Nat)) with | some m => _ | none => _
    cases eqB (m 15) 0 with
    | true => exact hZ _
    | false => exact Eq.trans (el_baI_4_0 9 5 _ rw l (swapM 5 0 3 m)) (Eq.trans (ex_baI_4_0 9 (M + 4) K rw l _) (lo_baI_4_1 M K rw l Z hZ _))
theorem run_baI_4 (N : Nat) (rw : Bool) (a : Nat → Nat) : run ty tab_baI an_baI N Try.f6 [.int .i64 4, .sl 0 0 16] [.at rw (.fl .f32 (rts 16 a))]
    = (match decide ((rts 16 a).length = 16 ∧ 16 < 2147483648) with | true => (match !(ratesB 4 (rts 16 a)) with | true => some (.tup [.a (.nil), .a (.bool false)], [.at rw (.fl .f32 (rts 16 a))]) | false => (match outOk 4 16 (rts 16 a) 0 with | true => (match outOk 4 16 (rts 16 a) 1 with | true => (match outOk 4 16 (rts 16 a) 2 with | true => lpO_baI 1 N N (stO_baI_4 rw (rts 16 a) 0 (mI 4 (rts 16 a))) (ktO_baI 1 N (kEnd Try.f6 1)) | false => none) | false => none) | false => none)) | false => none) := by
  kernel_rfl
theorem end_baI_4 (N : Nat) (rw : Bool) (l : List Nat) (m : Nat → Nat) : ktO_baI 1 N (kEnd Try.f6 1) (.exit 5) (stX_baI_4 rw l m)
    = (match decide ((bkL 5 4 m 4).length = 4 ∧ 4 < 2147483648) with | true => (match (bkL 5 4 m 4).all finB with | true => some (.tup [.a (.sl 1 0 4), .a (.bool true)], [.at rw (.fl .f32 l), .at true (.fl .f32 (bkL 5 4 m 4))]) | false => some (.tup [.a (.nil), .a (.bool false)], [.at rw (.fl .f32 l)])) | false => none) := by
  kernel_rfl
theorem endr_baI_4 (N : Nat) (rw : Bool) (l : List Nat) (m : Nat → Nat) : ktO_baI 1 N (kEnd Try.f6 1) .ret (stR_baI_4 rw l m)
    = some (.tup [.a (.nil), .a (.bool false)], [.at rw (.fl .f32 l)]) := by
  kernel_rfl
end Go.Proofs.Ytppdnhjcnjfppaa.Ab
