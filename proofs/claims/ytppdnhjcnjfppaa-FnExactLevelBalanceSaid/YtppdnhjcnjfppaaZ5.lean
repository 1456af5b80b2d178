/- What the proof names: lemmas and words, merged by a program from its parts. No condition. -/
import Derived.Test.YtppdnhjcnjfppaaZ2
namespace Go.Proofs.Ytppdnhjcnjfppaa.Ab
set_option linter.unusedVariables false
set_option linter.unusedSimpArgs false
open Go
def stO_baI_3 (rw : Bool) (l : List Nat) (k : Int) (m : Nat → Nat) : St := ⟨(.int .i64 3 :: .any :: .any :: .any :: .any :: .any :: .sl 1 0 3 :: (anys 73 (.int .i64 3 :: .int .i64 k :: (anys 150 [])))), [.at rw (.fl .f32 l), .at true (.as 1 [.sl 2 0 4, .sl 3 0 4, .sl 4 0 4]), .at true (.fl .f32 [m 0, m 1, m 2, m 3]), .at true (.fl .f32 [m 4, m 5, m 6, m 7]), .at true (.fl .f32 [m 8, m 9, m 10, m 11])]⟩
def stS_baI_3 (rw : Bool) (l : List Nat) (k : Int) (i : Int) (a : Int) (m : Nat → Nat) : St := ⟨(.int .i64 3 :: .any :: .any :: .any :: .any :: .any :: .sl 1 0 3 :: .any :: .any :: .any :: .int .i64 k :: .int .i64 a :: .int .i64 i :: (anys 67 (.int .i64 3 :: .int .i64 k :: (anys 150 [])))), [.at rw (.fl .f32 l), .at true (.as 1 [.sl 2 0 4, .sl 3 0 4, .sl 4 0 4]), .at true (.fl .f32 [m 0, m 1, m 2, m 3]), .at true (.fl .f32 [m 4, m 5, m 6, m 7]), .at true (.fl .f32 [m 8, m 9, m 10, m 11])]⟩
def sts_baI_3 (rw : Bool) (l : List Nat) (k : Int) (a : Int) (m : Nat → Nat) : St := ⟨(.int .i64 3 :: .any :: .any :: .any :: .any :: .any :: .sl 1 0 3 :: .any :: .any :: .any :: .int .i64 k :: .int .i64 a :: (anys 68 (.int .i64 3 :: .int .i64 k :: (anys 150 [])))), [.at rw (.fl .f32 l), .at true (.as 1 [.sl 2 0 4, .sl 3 0 4, .sl 4 0 4]), .at true (.fl .f32 [m 0, m 1, m 2, m 3]), .at true (.fl .f32 [m 4, m 5, m 6, m 7]), .at true (.fl .f32 [m 8, m 9, m 10, m 11])]⟩
def stE_baI_3 (rw : Bool) (l : List Nat) (k : Int) (i : Int) (m : Nat → Nat) : St := ⟨(.int .i64 3 :: .any :: .any :: .any :: .any :: .any :: .sl 1 0 3 :: .any :: .any :: .any :: .int .i64 k :: .any :: .any :: .int .i64 i :: (anys 66 (.int .i64 3 :: .int .i64 k :: (anys 150 [])))), [.at rw (.fl .f32 l), .at true (.as 1 [.sl 2 0 4, .sl 3 0 4, .sl 4 0 4]), .at true (.fl .f32 [m 0, m 1, m 2, m 3]), .at true (.fl .f32 [m 4, m 5, m 6, m 7]), .at true (.fl .f32 [m 8, m 9, m 10, m 11])]⟩
def ste_baI_3 (rw : Bool) (l : List Nat) (k : Int) (m : Nat → Nat) : St := ⟨(.int .i64 3 :: .any :: .any :: .any :: .any :: .any :: .sl 1 0 3 :: (anys 73 (.int .i64 3 :: .int .i64 k :: (anys 150 [])))), [.at rw (.fl .f32 l), .at true (.as 1 [.sl 2 0 4, .sl 3 0 4, .sl 4 0 4]), .at true (.fl .f32 [m 0, m 1, m 2, m 3]), .at true (.fl .f32 [m 4, m 5, m 6, m 7]), .at true (.fl .f32 [m 8, m 9, m 10, m 11])]⟩
def stX_baI_3 (rw : Bool) (l : List Nat) (m : Nat → Nat) : St := ⟨(.int .i64 3 :: .any :: .any :: .any :: .any :: .any :: .sl 1 0 3 :: (anys 225 [])), [.at rw (.fl .f32 l), .at true (.as 1 [.sl 2 0 4, .sl 3 0 4, .sl 4 0 4]), .at true (.fl .f32 [m 0, m 1, m 2, m 3]), .at true (.fl .f32 [m 4, m 5, m 6, m 7]), .at true (.fl .f32 [m 8, m 9, m 10, m 11])]⟩
def stR_baI_3 (rw : Bool) (l : List Nat) (m : Nat → Nat) : St := ⟨(.int .i64 3 :: .any :: .any :: .any :: .nil :: .bool false :: .sl 1 0 3 :: (anys 225 [])), [.at rw (.fl .f32 l), .at true (.as 1 [.sl 2 0 4, .sl 3 0 4, .sl 4 0 4]), .at true (.fl .f32 [m 0, m 1, m 2, m 3]), .at true (.fl .f32 [m 4, m 5, m 6, m 7]), .at true (.fl .f32 [m 8, m 9, m 10, m 11])]⟩
theorem head_baI_3_0 {R : Type} (N M : Nat) (K : X → St → Option R) (rw : Bool) (l : List Nat) (m : Nat → Nat) : lpO_baI 1 N (M + 1) (stO_baI_3 rw l 0 m) K
    = lpS_baI 1 N N (stS_baI_3 rw l 0 1 0 m) (ktS_baI 1 N (bk_baI 1 N M K)) := by
  kernel_rfl
theorem se_baI_3_0_3_2 {R : Type} (N M : Nat) (K : X → St → Option R) (rw : Bool) (l : List Nat) (m : Nat → Nat) : lpS_baI 1 N (M + 1) (stS_baI_3 rw l 0 3 2 m) K
    = K (.exit 7) (sts_baI_3 rw l 0 2 m) := by
  kernel_rfl
theorem se_baI_3_0_3_1 {R : Type} (N M : Nat) (K : X → St → Option R) (rw : Bool) (l : List Nat) (m : Nat → Nat) : lpS_baI 1 N (M + 1) (stS_baI_3 rw l 0 3 1 m) K
    = K (.exit 7) (sts_baI_3 rw l 0 1 m) := by
  kernel_rfl
theorem se_baI_3_0_3_0 {R : Type} (N M : Nat) (K : X → St → Option R) (rw : Bool) (l : List Nat) (m : Nat → Nat) : lpS_baI 1 N (M + 1) (stS_baI_3 rw l 0 3 0 m) K
    = K (.exit 7) (sts_baI_3 rw l 0 0 m) := by
  kernel_rfl
theorem sf_baI_3_0_2_1 {R : Type} (N M : Nat) (K : X → St → Option R) (rw : Bool) (l : List Nat) (m : Nat → Nat) : lpS_baI 1 N (M + 1) (stS_baI_3 rw l 0 2 1 m) K
    = match gtB (magB (m 8)) (magB (m 4)) with | true => lpS_baI 1 N M (stS_baI_3 rw l 0 3 2 m) K | false => lpS_baI 1 N M (stS_baI_3 rw l 0 3 1 m) K := by
  kernel_rfl
theorem se_baI_3_0_2_1 {R : Type} (N M : Nat) (K : X → St → Option R) (rw : Bool) (l : List Nat) (m : Nat → Nat) : lpS_baI 1 N (M + 2) (stS_baI_3 rw l 0 2 1 m) K
    = K (.exit 7) (sts_baI_3 rw l 0 ((seaV magB 4 0 m 1 2 1 : Nat) : Int) m) := by
  refine Eq.trans (sf_baI_3_0_2_1 N (M + 1) K rw l m) ?_
  unfold seaV
  show _ = K _ (sts_baI_3 rw l 0 ((match gtB (magB (m 8)) (magB (m 4)) with | true => _ | false => _ : Nat) : Int) m)
  cases gtB (magB (m 8)) (magB (m 4))
  · exact se_baI_3_0_3_1 N M K rw l m
  · exact se_baI_3_0_3_2 N M K rw l m
theorem sf_baI_3_0_2_0 {R : Type} (N M : Nat) (K : X → St → Option R) (rw : Bool) (l : List Nat) (m : Nat → Nat) : lpS_baI 1 N (M + 1) (stS_baI_3 rw l 0 2 0 m) K
    = match gtB (magB (m 8)) (magB (m 0)) with | true => lpS_baI 1 N M (stS_baI_3 rw l 0 3 2 m) K | false => lpS_baI 1 N M (stS_baI_3 rw l 0 3 0 m) K := by
  kernel_rfl
theorem se_baI_3_0_2_0 {R : Type} (N M : Nat) (K : X → St → Option R) (rw : Bool) (l : List Nat) (m : Nat → Nat) : lpS_baI 1 N (M + 2) (stS_baI_3 rw l 0 2 0 m) K
    = K (.exit 7) (sts_baI_3 rw l 0 ((seaV magB 4 0 m 1 2 0 : Nat) : Int) m) := by
  refine Eq.trans (sf_baI_3_0_2_0 N (M + 1) K rw l m) ?_
  unfold seaV
  show _ = K _ (sts_baI_3 rw l 0 ((match gtB (magB (m 8)) (magB (m 0)) with | true => _ | false => _ : Nat) : Int) m)
  cases gtB (magB (m 8)) (magB (m 0))
  · exact se_baI_3_0_3_0 N M K rw l m
  · exact se_baI_3_0_3_2 N M K rw l m
theorem sf_baI_3_0_1_0 {R : Type} (N M : Nat) (K : X → St → Option R) (rw : Bool) (l : List Nat) (m : Nat → Nat) : lpS_baI 1 N (M + 1) (stS_baI_3 rw l 0 1 0 m) K
    = match gtB (magB (m 4)) (magB (m 0)) with | true => lpS_baI 1 N M (stS_baI_3 rw l 0 2 1 m) K | false => lpS_baI 1 N M (stS_baI_3 rw l 0 2 0 m) K := by
  kernel_rfl
theorem se_baI_3_0_1_0 {R : Type} (N M : Nat) (K : X → St → Option R) (rw : Bool) (l : List Nat) (m : Nat → Nat) : lpS_baI 1 N (M + 3) (stS_baI_3 rw l 0 1 0 m) K
    = K (.exit 7) (sts_baI_3 rw l 0 ((seaV magB 4 0 m 2 1 0 : Nat) : Int) m) := by
  refine Eq.trans (sf_baI_3_0_1_0 N (M + 2) K rw l m) ?_
  unfold seaV
  show _ = K _ (sts_baI_3 rw l 0 ((match gtB (magB (m 4)) (magB (m 0)) with | true => _ | false => _ : Nat) : Int) m)
  cases gtB (magB (m 4)) (magB (m 0))
  · exact se_baI_3_0_2_0 N M K rw l m
  · exact se_baI_3_0_2_1 N M K rw l m
theorem sx_baI_3_0_0 {R : Type} (N M : Nat) (K : X → St → Option R) (rw : Bool) (l : List Nat) (m : Nat → Nat) : ktS_baI 1 N (bk_baI 1 N M K) (.exit 7) (sts_baI_3 rw l 0 0 m)
    = match eqB (m 0) 0 with | true => K .ret (stR_baI_3 rw l (swapM 4 0 0 m)) | false => lpE_baI 1 N N (stE_baI_3 rw l 0 1 (swapM 4 0 0 m)) (ktE_baI 1 N (bk_baI 1 N M K)) := by
  kernel_rfl
theorem sx_baI_3_0_1 {R : Type} (N M : Nat) (K : X → St → Option R) (rw : Bool) (l : List Nat) (m : Nat → Nat) : ktS_baI 1 N (bk_baI 1 N M K) (.exit 7) (sts_baI_3 rw l 0 1 m)
    = match eqB (m 4) 0 with | true => K .ret (stR_baI_3 rw l (swapM 4 0 1 m)) | false => lpE_baI 1 N N (stE_baI_3 rw l 0 1 (swapM 4 0 1 m)) (ktE_baI 1 N (bk_baI 1 N M K)) := by
  kernel_rfl
theorem sx_baI_3_0_2 {R : Type} (N M : Nat) (K : X → St → Option R) (rw : Bool) (l : List Nat) (m : Nat → Nat) : ktS_baI 1 N (bk_baI 1 N M K) (.exit 7) (sts_baI_3 rw l 0 2 m)
    = match eqB (m 8) 0 with | true => K .ret (stR_baI_3 rw l (swapM 4 0 2 m)) | false => lpE_baI 1 N N (stE_baI_3 rw l 0 1 (swapM 4 0 2 m)) (ktE_baI 1 N (bk_baI 1 N M K)) := by
  kernel_rfl
theorem el_baI_3_0 {R : Type} (N M : Nat) (K : X → St → Option R) (rw : Bool) (l : List Nat) (m : Nat → Nat) : lpE_baI 1 N (M + 3) (stE_baI_3 rw l 0 1 m) K
    = K (.exit 9) (ste_baI_3 rw l 0 (elimM 4 0 m)) := by
  kernel_rfl
theorem ex_baI_3_0 {R : Type} (N M : Nat) (K : X → St → Option R) (rw : Bool) (l : List Nat) (m : Nat → Nat) : ktE_baI 1 N (bk_baI 1 N M K) (.exit 9) (ste_baI_3 rw l 0 m)
    = lpO_baI 1 N M (stO_baI_3 rw l 1 m) K := by
  kernel_rfl
theorem head_baI_3_1 {R : Type} (N M : Nat) (K : X → St → Option R) (rw : Bool) (l : List Nat) (m : Nat → Nat) : lpO_baI 1 N (M + 1) (stO_baI_3 rw l 1 m) K
    = lpS_baI 1 N N (stS_baI_3 rw l 1 2 1 m) (ktS_baI 1 N (bk_baI 1 N M K)) := by
  kernel_rfl
theorem se_baI_3_1_3_2 {R : Type} (N M : Nat) (K : X → St → Option R) (rw : Bool) (l : List Nat) (m : Nat → Nat) : lpS_baI 1 N (M + 1) (stS_baI_3 rw l 1 3 2 m) K
    = K (.exit 7) (sts_baI_3 rw l 1 2 m) := by
  kernel_rfl
theorem se_baI_3_1_3_1 {R : Type} (N M : Nat) (K : X → St → Option R) (rw : Bool) (l : List Nat) (m : Nat → Nat) : lpS_baI 1 N (M + 1) (stS_baI_3 rw l 1 3 1 m) K
    = K (.exit 7) (sts_baI_3 rw l 1 1 m) := by
  kernel_rfl
theorem sf_baI_3_1_2_1 {R : Type} (N M : Nat) (K : X → St → Option R) (rw : Bool) (l : List Nat) (m : Nat → Nat) : lpS_baI 1 N (M + 1) (stS_baI_3 rw l 1 2 1 m) K
    = match gtB (magB (m 9)) (magB (m 5)) with | true => lpS_baI 1 N M (stS_baI_3 rw l 1 3 2 m) K | false => lpS_baI 1 N M (stS_baI_3 rw l 1 3 1 m) K := by
  kernel_rfl
theorem se_baI_3_1_2_1 {R : Type} (N M : Nat) (K : X → St → Option R) (rw : Bool) (l : List Nat) (m : Nat → Nat) : lpS_baI 1 N (M + 2) (stS_baI_3 rw l 1 2 1 m) K
    = K (.exit 7) (sts_baI_3 rw l 1 ((seaV magB 4 1 m 1 2 1 : Nat) : Int) m) := by
  refine Eq.trans (sf_baI_3_1_2_1 N (M + 1) K rw l m) ?_
  unfold seaV
  show _ = K _ (sts_baI_3 rw l 1 ((match gtB (magB (m 9)) (magB (m 5)) with | true => _ | false => _ : Nat) : Int) m)
  cases gtB (magB (m 9)) (magB (m 5))
  · exact se_baI_3_1_3_1 N M K rw l m
  · exact se_baI_3_1_3_2 N M K rw l m
theorem sx_baI_3_1_1 {R : Type} (N M : Nat) (K : X → St → Option R) (rw : Bool) (l : List Nat) (m : Nat → Nat) : ktS_baI 1 N (bk_baI 1 N M K) (.exit 7) (sts_baI_3 rw l 1 1 m)
    = match eqB (m 5) 0 with | true => K .ret (stR_baI_3 rw l (swapM 4 1 1 m)) | false => lpE_baI 1 N N (stE_baI_3 rw l 1 2 (swapM 4 1 1 m)) (ktE_baI 1 N (bk_baI 1 N M K)) := by
  kernel_rfl
theorem sx_baI_3_1_2 {R : Type} (N M : Nat) (K : X → St → Option R) (rw : Bool) (l : List Nat) (m : Nat → Nat) : ktS_baI 1 N (bk_baI 1 N M K) (.exit 7) (sts_baI_3 rw l 1 2 m)
    = match eqB (m 9) 0 with | true => K .ret (stR_baI_3 rw l (swapM 4 1 2 m)) | false => lpE_baI 1 N N (stE_baI_3 rw l 1 2 (swapM 4 1 2 m)) (ktE_baI 1 N (bk_baI 1 N M K)) := by
  kernel_rfl
theorem el_baI_3_1 {R : Type} (N M : Nat) (K : X → St → Option R) (rw : Bool) (l : List Nat) (m : Nat → Nat) : lpE_baI 1 N (M + 2) (stE_baI_3 rw l 1 2 m) K
    = K (.exit 9) (ste_baI_3 rw l 1 (elimM 4 1 m)) := by
  kernel_rfl
theorem ex_baI_3_1 {R : Type} (N M : Nat) (K : X → St → Option R) (rw : Bool) (l : List Nat) (m : Nat → Nat) : ktE_baI 1 N (bk_baI 1 N M K) (.exit 9) (ste_baI_3 rw l 1 m)
    = lpO_baI 1 N M (stO_baI_3 rw l 2 m) K := by
  kernel_rfl
theorem head_baI_3_2 {R : Type} (N M : Nat) (K : X → St → Option R) (rw : Bool) (l : List Nat) (m : Nat → Nat) : lpO_baI 1 N (M + 1) (stO_baI_3 rw l 2 m) K
    = lpS_baI 1 N N (stS_baI_3 rw l 2 3 2 m) (ktS_baI 1 N (bk_baI 1 N M K)) := by
  kernel_rfl
theorem se_baI_3_2_3_2 {R : Type} (N M : Nat) (K : X → St → Option R) (rw : Bool) (l : List Nat) (m : Nat → Nat) : lpS_baI 1 N (M + 1) (stS_baI_3 rw l 2 3 2 m) K
    = K (.exit 7) (sts_baI_3 rw l 2 2 m) := by
  kernel_rfl
theorem sx_baI_3_2_2 {R : Type} (N M : Nat) (K : X → St → Option R) (rw : Bool) (l : List Nat) (m : Nat → Nat) : ktS_baI 1 N (bk_baI 1 N M K) (.exit 7) (sts_baI_3 rw l 2 2 m)
    = match eqB (m 10) 0 with | true => K .ret (stR_baI_3 rw l (swapM 4 2 2 m)) | false => lpE_baI 1 N N (stE_baI_3 rw l 2 3 (swapM 4 2 2 m)) (ktE_baI 1 N (bk_baI 1 N M K)) := by
  kernel_rfl
theorem el_baI_3_2 {R : Type} (N M : Nat) (K : X → St → Option R) (rw : Bool) (l : List Nat) (m : Nat → Nat) : lpE_baI 1 N (M + 1) (stE_baI_3 rw l 2 3 m) K
    = K (.exit 9) (ste_baI_3 rw l 2 (elimM 4 2 m)) := by
  kernel_rfl
theorem ex_baI_3_2 {R : Type} (N M : Nat) (K : X → St → Option R) (rw : Bool) (l : List Nat) (m : Nat → Nat) : ktE_baI 1 N (bk_baI 1 N M K) (.exit 9) (ste_baI_3 rw l 2 m)
    = lpO_baI 1 N M (stO_baI_3 rw l 3 m) K := by
  kernel_rfl
theorem head_baI_3_3 {R : Type} (N M : Nat) (K : X → St → Option R) (rw : Bool) (l : List Nat) (m : Nat → Nat) : lpO_baI 1 N (M + 1) (stO_baI_3 rw l 3 m) K
    = K (.exit 5) (stX_baI_3 rw l m) := by
  kernel_rfl
theorem lo_baI_3_3 {R : Type} (M : Nat) (K : X → St → Option R) (rw : Bool) (l : List Nat) (Z : Option R) (hZ : ∀ m, K .ret (stR_baI_3 rw l m) = Z) (m : Nat → Nat) : lpO_baI 1 9 (M + 1) (stO_baI_3 rw l 3 m) K
    = match sol magB 4 3 0 3 m with | some m => K (.exit 5) (stX_baI_3 rw l m) | none => Z := by
  exact head_baI_3_3 9 M K rw l m
theorem lo_baI_3_2 {R : Type} (M : Nat) (K : X → St → Option R) (rw : Bool) (l : List Nat) (Z : Option R) (hZ : ∀ m, K .ret (stR_baI_3 rw l m) = Z) (m : Nat → Nat) : lpO_baI 1 9 (M + 2) (stO_baI_3 rw l 2 m) K
    = match sol magB 4 3 1 2 m with | some m => K (.exit 5) (stX_baI_3 rw l m) | none => Z := by
  refine Eq.trans (head_baI_3_2 9 (M + 1) K rw l m) ?_
  refine Eq.trans (se_baI_3_2_3_2 9 8 _ rw l m) ?_
  refine Eq.trans (sx_baI_3_2_2 9 (M + 1) K rw l m) ?_
  show _ = match (match eqB (m 10) 0 with | true => none | false => _ : Option (Nat → Nat)) with | some m => _ | none => _
  cases eqB (m 10) 0 with
  | true => exact hZ _
  | false => exact Eq.trans (el_baI_3_2 9 8 _ rw l (swapM 4 2 2 m)) (Eq.trans (ex_baI_3_2 9 (M + 1) K rw l _) (lo_baI_3_3 M K rw l Z hZ _))
theorem lo_baI_3_1 {R : Type} (M : Nat) (K : X → St → Option R) (rw : Bool) (l : List Nat) (Z : Option R) (hZ : ∀ m, K .ret (stR_baI_3 rw l m) = Z) (m : Nat → Nat) : lpO_baI 1 9 (M + 3) (stO_baI_3 rw l 1 m) K
    = match sol magB 4 3 2 1 m with | some m => K (.exit 5) (stX_baI_3 rw l m) | none => Z := by
  refine Eq.trans (head_baI_3_1 9 (M + 2) K rw l m) ?_
  refine Eq.trans (se_baI_3_1_2_1 9 7 _ rw l m) ?_
  have hlt : seaV magB 4 1 m 1 2 1 < 3 := seaV_le _ _ _ rfl (by decide)
  have hge : 1 ≤ seaV magB 4 1 m 1 2 1 := seaV_ge _ _ _ (by decide) (by decide)
  unfold sol bestM
  generalize hs : seaV magB 4 1 m 1 2 1 = a at hlt hge ⊢
  have hc : a = 1 ∨ a = 2 := by omega
  rcases hc with rfl | rfl
  · refine Eq.trans (sx_baI_3_1_1 9 (M + 2) K rw l m) ?_
    show _ = match (match eqB (m 5) 0 with | true => none | false => _ : Option (Nat → Nat)) with | some m => _ | none => _
    cases eqB (m 5) 0 with
    | true => exact hZ _
    | false => exact Eq.trans (el_baI_3_1 9 7 _ rw l (swapM 4 1 1 m)) (Eq.trans (ex_baI_3_1 9 (M + 2) K rw l _) (lo_baI_3_2 M K rw l Z hZ _))
  · refine Eq.trans (sx_baI_3_1_2 9 (M + 2) K rw l m) ?_
    show _ = match (match eqB (m 9) 0 with | true => none | false => _ : Option (Nat → Nat)) with | some m => _ | none => _
    cases eqB (m 9) 0 with
    | true => exact hZ _
    | false => exact Eq.trans (el_baI_3_1 9 7 _ rw l (swapM 4 1 2 m)) (Eq.trans (ex_baI_3_1 9 (M + 2) K rw l _) (lo_baI_3_2 M K rw l Z hZ _))
theorem lo_baI_3_0 {R : Type} (M : Nat) (K : X → St → Option R) (rw : Bool) (l : List Nat) (Z : Option R) (hZ : ∀ m, K .ret (stR_baI_3 rw l m) = Z) (m : Nat → Nat) : lpO_baI 1 9 (M + 4) (stO_baI_3 rw l 0 m) K
    = match sol magB 4 3 3 0 m with | some m => K (.exit 5) (stX_baI_3 rw l m) | none => Z := by
  refine Eq.trans (head_baI_3_0 9 (M + 3) K rw l m) ?_
  refine Eq.trans (se_baI_3_0_1_0 9 6 _ rw l m) ?_
  have hlt : seaV magB 4 0 m 2 1 0 < 3 := seaV_le _ _ _ rfl (by decide)
  have hge : 0 ≤ seaV magB 4 0 m 2 1 0 := seaV_ge _ _ _ (by decide) (by decide)
  unfold sol bestM
  generalize hs : seaV magB 4 0 m 2 1 0 = a at hlt hge ⊢
  have hc : a = 0 ∨ a = 1 ∨ a = 2 := by omega
  rcases hc with rfl | rfl | rfl
  · refine Eq.trans (sx_baI_3_0_0 9 (M + 3) K rw l m) ?_
    show _ = match (match eqB (m 0) 0 with | true => none | false => _ : Option (Nat → Nat)) with | some m => _ | none => _
    cases eqB (m 0) 0 with
    | true => exact hZ _
    | false => exact Eq.trans (el_baI_3_0 9 6 _ rw l (swapM 4 0 0 m)) (Eq.trans (ex_baI_3_0 9 (M + 3) K rw l _) (lo_baI_3_1 M K rw l Z hZ _))
  · refine Eq.trans (sx_baI_3_0_1 9 (M + 3) K rw l m) ?_
    show _ = match (match eqB (m 4) 0 with | true => none | false => _ : Option (Nat → Nat)) with | some m => _ | none => _
    cases eqB (m 4) 0 with
    | true => exact hZ _
    | false => exact Eq.trans (el_baI_3_0 9 6 _ rw l (swapM 4 0 1 m)) (Eq.trans (ex_baI_3_0 9 (M + 3) K rw l _) (lo_baI_3_1 M K rw l Z hZ _))
  · refine Eq.trans (sx_baI_3_0_2 9 (M + 3) K rw l m) ?_
    show _ = match (match eqB (m 8) 0 with | true => none | false => _ : Option (Nat → Nat)) with | some m => _ | none => _
    cases eqB (m 8) 0 with
    | true => exact hZ _
    | false => exact Eq.trans (el_baI_3_0 9 6 _ rw l (swapM 4 0 2 m)) (Eq.trans (ex_baI_3_0 9 (M + 3) K rw l _) (lo_baI_3_1 M K rw l Z hZ _))
theorem run_baI_3 (N : Nat) (rw : Bool) (a : Nat → Nat) : run ty tab_baI an_baI N Try.f6 [.int .i64 3, .sl 0 0 9] [.at rw (.fl .f32 (rts 9 a))]
    = (match decide ((rts 9 a).length = 9 ∧ 9 < 2147483648) with | true => (match !(ratesB 3 (rts 9 a)) with | true => some (.tup [.a (.nil), .a (.bool false)], [.at rw (.fl .f32 (rts 9 a))]) | false => (match outOk 3 9 (rts 9 a) 0 with | true => (match outOk 3 9 (rts 9 a) 1 with | true => lpO_baI 1 N N (stO_baI_3 rw (rts 9 a) 0 (mI 3 (rts 9 a))) (ktO_baI 1 N (kEnd Try.f6 1)) | false => none) | false => none)) | false => none) := by
  kernel_rfl
theorem end_baI_3 (N : Nat) (rw : Bool) (l : List Nat) (m : Nat → Nat) : ktO_baI 1 N (kEnd Try.f6 1) (.exit 5) (stX_baI_3 rw l m)
    = (match decide ((bkL 4 3 m 3).length = 3 ∧ 3 < 2147483648) with | true => (match (bkL 4 3 m 3).all finB with | true => some (.tup [.a (.sl 1 0 3), .a (.bool true)], [.at rw (.fl .f32 l), .at true (.fl .f32 (bkL 4 3 m 3))]) | false => some (.tup [.a (.nil), .a (.bool false)], [.at rw (.fl .f32 l)])) | false => none) := by
  kernel_rfl
theorem endr_baI_3 (N : Nat) (rw : Bool) (l : List Nat) (m : Nat → Nat) : ktO_baI 1 N (kEnd Try.f6 1) .ret (stR_baI_3 rw l m)
    = some (.tup [.a (.nil), .a (.bool false)], [.at rw (.fl .f32 l)]) := by
  kernel_rfl
end Go.Proofs.Ytppdnhjcnjfppaa.Ab
