/- What the proof names: lemmas and words, merged by a program from its parts. No condition. -/
import Derived.Test.YtpjoapgfdjfbdaaZ24
namespace Go.Proofs.Ytpjoapgfdjfbdaa.Ab
set_option linter.unusedVariables false
set_option linter.unusedSimpArgs false
open Go
theorem aLS : ((List.range 52).all fun i => xr 12 4 (0 + i)) = true := by kernel_rfl
theorem aEO : ((List.range 13).all fun i => xr 12 4 (52 + i)) = true := by kernel_rfl
theorem aEP : ((List.range 11).all fun i => xr 12 4 (65 + i)) = true := by kernel_rfl
theorem aEQ : ((List.range 2).all fun i => xr 12 4 (76 + i)) = true := by kernel_rfl
theorem aLT : ((List.range 9).all fun i => xr 12 5 (0 + i)) = true := by kernel_rfl
theorem aLU : ((List.range 30).all fun i => xr 12 5 (9 + i)) = true := by kernel_rfl
theorem aER : ((List.range 13).all fun i => xr 12 5 (39 + i)) = true := by kernel_rfl
theorem aES : ((List.range 11).all fun i => xr 12 5 (52 + i)) = true := by kernel_rfl
theorem aET : ((List.range 11).all fun i => xr 12 5 (63 + i)) = true := by kernel_rfl
theorem aEU : ((List.range 4).all fun i => xr 12 5 (74 + i)) = true := by kernel_rfl
theorem aX2 : ∀ i, i < 78 → xr 12 4 i = true := iJ (iJ (iJ (iJ (jK _) aLS) aEO) aEP) aEQ
theorem aX3 : ∀ i, i < 78 → xr 12 5 i = true := iJ (iJ (iJ (iJ (iJ (iJ (jK _) aLT) aLU) aER) aES) aET) aEU
end Go.Proofs.Ytpjoapgfdjfbdaa.Ab
