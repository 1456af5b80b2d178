/- What the proof names: lemmas and words, merged by a program from its parts. No condition. -/
import Derived.Test.YtpjoapgfdjfbdaaZ24
namespace Go.Proofs.Ytpjoapgfdjfbdaa.Ab
set_option linter.unusedVariables false
set_option linter.unusedSimpArgs false
open Go
theorem aLJ : ((List.range 78).all fun i => xr 11 2 (0 + i)) = true := by kernel_rfl
theorem aLK : ((List.range 74).all fun i => xr 11 3 (0 + i)) = true := by kernel_rfl
theorem aEH : ((List.range 4).all fun i => xr 11 3 (74 + i)) = true := by kernel_rfl
theorem aLL : ((List.range 64).all fun i => xr 11 4 (0 + i)) = true := by kernel_rfl
theorem aEI : ((List.range 13).all fun i => xr 11 4 (64 + i)) = true := by kernel_rfl
theorem aEJ : ((List.range 1).all fun i => xr 11 4 (77 + i)) = true := by kernel_rfl
theorem aLM : ((List.range 9).all fun i => xr 11 5 (0 + i)) = true := by kernel_rfl
theorem aLN : ((List.range 43).all fun i => xr 11 5 (9 + i)) = true := by kernel_rfl
theorem aEK : ((List.range 12).all fun i => xr 11 5 (52 + i)) = true := by kernel_rfl
theorem aEL : ((List.range 11).all fun i => xr 11 5 (64 + i)) = true := by kernel_rfl
theorem aEM : ((List.range 3).all fun i => xr 11 5 (75 + i)) = true := by kernel_rfl
theorem aLO : ((List.range 78).all fun i => xr 12 0 (0 + i)) = true := by kernel_rfl
theorem aLP : ((List.range 78).all fun i => xr 12 1 (0 + i)) = true := by kernel_rfl
theorem aLQ : ((List.range 78).all fun i => xr 12 2 (0 + i)) = true := by kernel_rfl
theorem aLR : ((List.range 68).all fun i => xr 12 3 (0 + i)) = true := by kernel_rfl
theorem aEN : ((List.range 10).all fun i => xr 12 3 (68 + i)) = true := by kernel_rfl
theorem aXU : ∀ i, i < 78 → xr 11 2 i = true := iJ (jK _) aLJ
theorem aXV : ∀ i, i < 78 → xr 11 3 i = true := iJ (iJ (jK _) aLK) aEH
theorem aXW : ∀ i, i < 78 → xr 11 4 i = true := iJ (iJ (iJ (jK _) aLL) aEI) aEJ
theorem aXX : ∀ i, i < 78 → xr 11 5 i = true := iJ (iJ (iJ (iJ (iJ (jK _) aLM) aLN) aEK) aEL) aEM
theorem aXY : ∀ i, i < 78 → xr 12 0 i = true := iJ (jK _) aLO
theorem aXZ : ∀ i, i < 78 → xr 12 1 i = true := iJ (jK _) aLP
theorem aX0 : ∀ i, i < 78 → xr 12 2 i = true := iJ (jK _) aLQ
theorem aX1 : ∀ i, i < 78 → xr 12 3 i = true := iJ (iJ (jK _) aLR) aEN
end Go.Proofs.Ytpjoapgfdjfbdaa.Ab
