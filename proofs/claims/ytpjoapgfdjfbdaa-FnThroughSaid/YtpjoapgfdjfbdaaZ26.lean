/- What the proof names: lemmas and words, merged by a program from its parts. No condition. -/
import Derived.Test.YtpjoapgfdjfbdaaZ24
namespace Go.Proofs.Ytpjoapgfdjfbdaa.Ab
set_option linter.unusedVariables false
set_option linter.unusedSimpArgs false
open Go
theorem aS0 : ((List.range 78).all fun i => xr 5 2 (0 + i)) = true := by kernel_rfl
theorem aS1 : ((List.range 78).all fun i => xr 5 3 (0 + i)) = true := by kernel_rfl
theorem aS2 : ((List.range 78).all fun i => xr 5 4 (0 + i)) = true := by kernel_rfl
theorem aS3 : ((List.range 78).all fun i => xr 5 5 (0 + i)) = true := by kernel_rfl
theorem aS4 : ((List.range 78).all fun i => xr 6 0 (0 + i)) = true := by kernel_rfl
theorem aS5 : ((List.range 78).all fun i => xr 6 1 (0 + i)) = true := by kernel_rfl
theorem aS6 : ((List.range 78).all fun i => xr 6 2 (0 + i)) = true := by kernel_rfl
theorem aS7 : ((List.range 78).all fun i => xr 6 3 (0 + i)) = true := by kernel_rfl
theorem aS8 : ((List.range 78).all fun i => xr 6 4 (0 + i)) = true := by kernel_rfl
theorem aS9 : ((List.range 78).all fun i => xr 6 5 (0 + i)) = true := by kernel_rfl
theorem aTA : ((List.range 78).all fun i => xr 7 0 (0 + i)) = true := by kernel_rfl
theorem aTB : ((List.range 78).all fun i => xr 7 1 (0 + i)) = true := by kernel_rfl
theorem aTC : ((List.range 78).all fun i => xr 7 2 (0 + i)) = true := by kernel_rfl
theorem aTD : ((List.range 78).all fun i => xr 7 3 (0 + i)) = true := by kernel_rfl
theorem aTE : ((List.range 78).all fun i => xr 7 4 (0 + i)) = true := by kernel_rfl
theorem aTF : ((List.range 78).all fun i => xr 7 5 (0 + i)) = true := by kernel_rfl
theorem aTG : ((List.range 78).all fun i => xr 8 0 (0 + i)) = true := by kernel_rfl
theorem aTH : ((List.range 78).all fun i => xr 8 1 (0 + i)) = true := by kernel_rfl
theorem aTI : ((List.range 78).all fun i => xr 8 2 (0 + i)) = true := by kernel_rfl
theorem aTJ : ((List.range 78).all fun i => xr 8 3 (0 + i)) = true := by kernel_rfl
theorem aTK : ((List.range 78).all fun i => xr 8 4 (0 + i)) = true := by kernel_rfl
theorem aTL : ((List.range 75).all fun i => xr 8 5 (0 + i)) = true := by kernel_rfl
theorem aK8 : ((List.range 3).all fun i => xr 8 5 (75 + i)) = true := by kernel_rfl
theorem aTM : ((List.range 78).all fun i => xr 9 0 (0 + i)) = true := by kernel_rfl
theorem aTN : ((List.range 78).all fun i => xr 9 1 (0 + i)) = true := by kernel_rfl
theorem aTO : ((List.range 78).all fun i => xr 9 2 (0 + i)) = true := by kernel_rfl
theorem aTP : ((List.range 78).all fun i => xr 9 3 (0 + i)) = true := by kernel_rfl
theorem aZ7 : ∀ i, i < 78 → xr 5 2 i = true := iJ (jK _) aS0
theorem aZ8 : ∀ i, i < 78 → xr 5 3 i = true := iJ (jK _) aS1
theorem aZ9 : ∀ i, i < 78 → xr 5 4 i = true := iJ (jK _) aS2
theorem a0A : ∀ i, i < 78 → xr 5 5 i = true := iJ (jK _) aS3
theorem a0B : ∀ i, i < 78 → xr 6 0 i = true := iJ (jK _) aS4
theorem a0C : ∀ i, i < 78 → xr 6 1 i = true := iJ (jK _) aS5
theorem a0D : ∀ i, i < 78 → xr 6 2 i = true := iJ (jK _) aS6
theorem a0E : ∀ i, i < 78 → xr 6 3 i = true := iJ (jK _) aS7
theorem a0G : ∀ i, i < 78 → xr 6 4 i = true := iJ (jK _) aS8
theorem a0H : ∀ i, i < 78 → xr 6 5 i = true := iJ (jK _) aS9
theorem a0I : ∀ i, i < 78 → xr 7 0 i = true := iJ (jK _) aTA
theorem a0J : ∀ i, i < 78 → xr 7 1 i = true := iJ (jK _) aTB
theorem a0K : ∀ i, i < 78 → xr 7 2 i = true := iJ (jK _) aTC
theorem a0L : ∀ i, i < 78 → xr 7 3 i = true := iJ (jK _) aTD
theorem a0M : ∀ i, i < 78 → xr 7 4 i = true := iJ (jK _) aTE
theorem a0N : ∀ i, i < 78 → xr 7 5 i = true := iJ (jK _) aTF
theorem a0O : ∀ i, i < 78 → xr 8 0 i = true := iJ (jK _) aTG
theorem a0P : ∀ i, i < 78 → xr 8 1 i = true := iJ (jK _) aTH
theorem a0Q : ∀ i, i < 78 → xr 8 2 i = true := iJ (jK _) aTI
theorem a0R : ∀ i, i < 78 → xr 8 3 i = true := iJ (jK _) aTJ
theorem a0S : ∀ i, i < 78 → xr 8 4 i = true := iJ (jK _) aTK
theorem a0T : ∀ i, i < 78 → xr 8 5 i = true := iJ (iJ (jK _) aTL) aK8
theorem a0U : ∀ i, i < 78 → xr 9 0 i = true := iJ (jK _) aTM
theorem a0V : ∀ i, i < 78 → xr 9 1 i = true := iJ (jK _) aTN
theorem a0W : ∀ i, i < 78 → xr 9 2 i = true := iJ (jK _) aTO
theorem a0X : ∀ i, i < 78 → xr 9 3 i = true := iJ (jK _) aTP
end Go.Proofs.Ytpjoapgfdjfbdaa.Ab
