/- What the proof names: lemmas and words, merged by a program from its parts. No condition. -/
import Derived.Test.YtppdnhjcnjfppaaZ9
namespace Go.Proofs.Ytppdnhjcnjfppaa.Ab
set_option linter.unusedVariables false
set_option linter.unusedSimpArgs false
open Go
def stO_soS_1 (k : Int) (m : Nat → Nat) : St := ⟨(.sl 3 0 1 :: .sl 4 0 1 :: .any :: .any :: .any :: .any :: .int .i64 1 :: .int .i64 k :: (anys 194 [])), [.gone, .gone, .gone, .at true (.as 1 [.sl 5 0 1]), .at true (.fl .f32 [m 1]), .at true (.fl .f32 [m 0])]⟩
def stS_soS_1 (k : Int) (i : Int) (a : Int) (m : Nat → Nat) : St := ⟨(.sl 3 0 1 :: .sl 4 0 1 :: .any :: .any :: .any :: .any :: .int .i64 1 :: .int .i64 k :: .int .i64 a :: .int .i64 i :: (anys 192 [])), [.gone, .gone, .gone, .at true (.as 1 [.sl 5 0 1]), .at true (.fl .f32 [m 1]), .at true (.fl .f32 [m 0])]⟩
def sts_soS_1 (k : Int) (a : Int) (m : Nat → Nat) : St := ⟨(.sl 3 0 1 :: .sl 4 0 1 :: .any :: .any :: .any :: .any :: .int .i64 1 :: .int .i64 k :: .int .i64 a :: (anys 193 [])), [.gone, .gone, .gone, .at true (.as 1 [.sl 5 0 1]), .at true (.fl .f32 [m 1]), .at true (.fl .f32 [m 0])]⟩
def stE_soS_1 (k : Int) (i : Int) (m : Nat → Nat) : St := ⟨(.sl 3 0 1 :: .sl 4 0 1 :: .any :: .any :: .any :: .any :: .int .i64 1 :: .int .i64 k :: .any :: .any :: .any :: .any :: .int .i64 i :: (anys 189 [])), [.gone, .gone, .gone, .at true (.as 1 [.sl 5 0 1]), .at true (.fl .f32 [m 1]), .at true (.fl .f32 [m 0])]⟩
def ste_soS_1 (k : Int) (m : Nat → Nat) : St := ⟨(.sl 3 0 1 :: .sl 4 0 1 :: .any :: .any :: .any :: .any :: .int .i64 1 :: .int .i64 k :: (anys 194 [])), [.gone, .gone, .gone, .at true (.as 1 [.sl 5 0 1]), .at true (.fl .f32 [m 1]), .at true (.fl .f32 [m 0])]⟩
def stX_soS_1 (m : Nat → Nat) : St := ⟨(.sl 3 0 1 :: .sl 4 0 1 :: .any :: .any :: .any :: .any :: .int .i64 1 :: (anys 195 [])), [.gone, .gone, .gone, .at true (.as 1 [.sl 5 0 1]), .at true (.fl .f32 [m 1]), .at true (.fl .f32 [m 0])]⟩
def stR_soS_1 (m : Nat → Nat) : St := ⟨(.sl 3 0 1 :: .sl 4 0 1 :: .any :: .any :: .nil :: .bool false :: .int .i64 1 :: (anys 195 [])), [.gone, .gone, .gone, .at true (.as 1 [.sl 5 0 1]), .at true (.fl .f32 [m 1]), .at true (.fl .f32 [m 0])]⟩
theorem head_soS_1_0 {R : Type} (N M : Nat) (K : X → St → Option R) (m : Nat → Nat) : lpO_soS 3 N (M + 1) (stO_soS_1 0 m) K
    = lpS_soS 3 N N (stS_soS_1 0 1 0 m) (ktS_soS 3 N (bk_soS 3 N M K)) := by
  kernel_rfl
theorem se_soS_1_0_1_0 {R : Type} (N M : Nat) (K : X → St → Option R) (m : Nat → Nat) : lpS_soS 3 N (M + 1) (stS_soS_1 0 1 0 m) K
    = K (.exit 2) (sts_soS_1 0 0 m) := by
  kernel_rfl
theorem sx_soS_1_0_0 {R : Type} (N M : Nat) (K : X → St → Option R) (m : Nat → Nat) : ktS_soS 3 N (bk_soS 3 N M K) (.exit 2) (sts_soS_1 0 0 m)
    = match eqB (m 0) 0 with | true => K .ret (stR_soS_1 (swapM 2 0 0 m)) | false => lpE_soS 3 N N (stE_soS_1 0 1 (swapM 2 0 0 m)) (ktE_soS 3 N (bk_soS 3 N M K)) := by
  kernel_rfl
theorem el_soS_1_0 {R : Type} (N M : Nat) (K : X → St → Option R) (m : Nat → Nat) : lpE_soS 3 N (M + 1) (stE_soS_1 0 1 m) K
    = K (.exit 4) (ste_soS_1 0 (elimM 2 0 m)) := by
  kernel_rfl
theorem ex_soS_1_0 {R : Type} (N M : Nat) (K : X → St → Option R) (m : Nat → Nat) : ktE_soS 3 N (bk_soS 3 N M K) (.exit 4) (ste_soS_1 0 m)
    = lpO_soS 3 N M (stO_soS_1 1 m) K := by
  kernel_rfl
theorem head_soS_1_1 {R : Type} (N M : Nat) (K : X → St → Option R) (m : Nat → Nat) : lpO_soS 3 N (M + 1) (stO_soS_1 1 m) K
    = K (.exit 0) (stX_soS_1 m) := by
  kernel_rfl
theorem lo_soS_1_1 {R : Type} (M : Nat) (K : X → St → Option R) (Z : Option R) (hZ : ∀ m, K .ret (stR_soS_1 m) = Z) (m : Nat → Nat) : lpO_soS 3 9 (M + 1) (stO_soS_1 1 m) K
    = match sol sizB 2 1 0 1 m with | some m => K (.exit 0) (stX_soS_1 m) | none => Z := by
  exact head_soS_1_1 9 M K m
theorem lo_soS_1_0 {R : Type} (M : Nat) (K : X → St → Option R) (Z : Option R) (hZ : ∀ m, K .ret (stR_soS_1 m) = Z) (m : Nat → Nat) : lpO_soS 3 9 (M + 2) (stO_soS_1 0 m) K
    = match sol sizB 2 1 1 0 m with | some m => K (.exit 0) (stX_soS_1 m) | none => Z := by
  refine Eq.trans (head_soS_1_0 9 (M + 1) K m) ?_
  refine Eq.trans (se_soS_1_0_1_0 9 8 _ m) ?_
  refine Eq.trans (sx_soS_1_0_0 9 (M + 1) K m) ?_
  show _ = match (match eqB (m 0) 0 with | true => none | false => _ : Option (Nat → Nat)) with | some m => _ | none => _
  cases eqB (m 0) 0 with
  | true => exact hZ _
  | false => exact Eq.trans (el_soS_1_0 9 8 _ (swapM 2 0 0 m)) (Eq.trans (ex_soS_1_0 9 (M + 1) K _) (lo_soS_1_1 M K Z hZ _))
theorem run_soS_1 (N : Nat) (m : Nat → Nat) : runM ty tab_soS an_soS N Try.f12 [.sl 0 0 1, .sl 1 0 1] (hSol 1 m)
    = lpO_soS 3 N N (stO_soS_1 0 m) (ktO_soS 3 N (kEnd Try.f12 3)) := by
  kernel_rfl
theorem end_soS_1 (N : Nat) (m : Nat → Nat) : ktO_soS 3 N (kEnd Try.f12 3) (.exit 0) (stX_soS_1 m)
    = some (.tup [.a (.sl 3 0 1), .a (.bool true)], [.gone, .gone, .gone, .at true (.fl .f32 (bkL 2 1 m 1))]) := by
  kernel_rfl
theorem endr_soS_1 (N : Nat) (m : Nat → Nat) : ktO_soS 3 N (kEnd Try.f12 3) .ret (stR_soS_1 m)
    = some (.tup [.a (.nil), .a (.bool false)], [.gone, .gone, .gone]) := by
  kernel_rfl
theorem so_1 (m : Nat → Nat) : runM ty tab_soS an_soS 9 Try.f12 [.sl 0 0 1, .sl 1 0 1] (hSol 1 m) = (solT 1 m).run := by
  refine Eq.trans (run_soS_1 9 m) ?_
  refine Eq.trans (lo_soS_1_0 7 (ktO_soS 3 9 (kEnd Try.f12 3)) _ (fun m => endr_soS_1 9 m) m) ?_
  unfold solT solL solM solOk
  cases sol sizB 2 1 1 0 m with
  | none => rfl
  | some m' => exact end_soS_1 9 m'
theorem ok_soS_1 : FnT Try.prog 12 (gSol 1) := by
  refine fnM tabok_soS Try.func12 rfl rfl an_soS fun vs h v h' e => ?_
  unfold gSol at e
  split at e
  case h_2 => exact (T.no_inv e).elim
  rename_i m hm
  obtain ⟨rfl, rfl⟩ := readS_inv hm
  exact ⟨hSol_rw 1 m, 9, (so_1 m).trans e⟩
end Go.Proofs.Ytppdnhjcnjfppaa.Ab
