/- What the proof names: lemmas and words, merged by a program from its parts. No condition. -/
import Derived.Test.YtpjoapgfdjfbdaaZ24
namespace Go.Proofs.Ytpjoapgfdjfbdaa.Ab
set_option linter.unusedVariables false
set_option linter.unusedSimpArgs false
open Go
theorem aTQ : ((List.range 75).all fun i => xr 9 4 (0 + i)) = true := by kernel_rfl
theorem aK9 : ((List.range 3).all fun i => xr 9 4 (75 + i)) = true := by kernel_rfl
theorem aTR : ((List.range 68).all fun i => xr 9 5 (0 + i)) = true := by kernel_rfl
theorem aLA : ((List.range 10).all fun i => xr 9 5 (68 + i)) = true := by kernel_rfl
theorem aLB : ((List.range 78).all fun i => xr 10 0 (0 + i)) = true := by kernel_rfl
theorem aLC : ((List.range 78).all fun i => xr 10 1 (0 + i)) = true := by kernel_rfl
theorem aLD : ((List.range 78).all fun i => xr 10 2 (0 + i)) = true := by kernel_rfl
theorem aLE : ((List.range 76).all fun i => xr 10 3 (0 + i)) = true := by kernel_rfl
theorem aED : ((List.range 2).all fun i => xr 10 3 (76 + i)) = true := by kernel_rfl
theorem aLF : ((List.range 68).all fun i => xr 10 4 (0 + i)) = true := by kernel_rfl
theorem aEE : ((List.range 10).all fun i => xr 10 4 (68 + i)) = true := by kernel_rfl
theorem aLG : ((List.range 62).all fun i => xr 10 5 (0 + i)) = true := by kernel_rfl
theorem aEF : ((List.range 12).all fun i => xr 10 5 (62 + i)) = true := by kernel_rfl
theorem aEG : ((List.range 4).all fun i => xr 10 5 (74 + i)) = true := by kernel_rfl
theorem aLH : ((List.range 78).all fun i => xr 11 0 (0 + i)) = true := by kernel_rfl
theorem aLI : ((List.range 78).all fun i => xr 11 1 (0 + i)) = true := by kernel_rfl
theorem a0Y : ∀ i, i < 78 → xr 9 4 i = true := iJ (iJ (jK _) aTQ) aK9
theorem a0Z : ∀ i, i < 78 → xr 9 5 i = true := iJ (iJ (jK _) aTR) aLA
theorem aXM : ∀ i, i < 78 → xr 10 0 i = true := iJ (jK _) aLB
theorem aXN : ∀ i, i < 78 → xr 10 1 i = true := iJ (jK _) aLC
theorem aXO : ∀ i, i < 78 → xr 10 2 i = true := iJ (jK _) aLD
theorem aXP : ∀ i, i < 78 → xr 10 3 i = true := iJ (iJ (jK _) aLE) aED
theorem aXQ : ∀ i, i < 78 → xr 10 4 i = true := iJ (iJ (jK _) aLF) aEE
theorem aXR : ∀ i, i < 78 → xr 10 5 i = true := iJ (iJ (iJ (jK _) aLG) aEF) aEG
theorem aXS : ∀ i, i < 78 → xr 11 0 i = true := iJ (jK _) aLH
theorem aXT : ∀ i, i < 78 → xr 11 1 i = true := iJ (jK _) aLI
end Go.Proofs.Ytpjoapgfdjfbdaa.Ab
