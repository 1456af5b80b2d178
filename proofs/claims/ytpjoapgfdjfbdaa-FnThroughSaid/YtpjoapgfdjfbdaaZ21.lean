/- What the proof names: lemmas and words, merged by a program from its parts. No condition. -/
import Derived.Test.YtpjoapgfdjfbdaaZ16
namespace Go.Proofs.Ytpjoapgfdjfbdaa.Ab
set_option linter.unusedVariables false
set_option linter.unusedSimpArgs false
open Go
theorem aQ8 : ((List.range 6).all fun q => pM 27 q) = true := by kernel_rfl
theorem aQ9 : ((List.range 6).all fun q => pM 28 q) = true := by kernel_rfl
theorem aRA : ((List.range 6).all fun q => pM 29 q) = true := by kernel_rfl
theorem aRB : ((List.range 6).all fun q => pM 30 q) = true := by kernel_rfl
theorem aRC : ((List.range 6).all fun q => pM 31 q) = true := by kernel_rfl
theorem aRD : ((List.range 6).all fun q => pM 32 q) = true := by kernel_rfl
theorem aRE : ((List.range 6).all fun q => pM 33 q) = true := by kernel_rfl
theorem aRF : ((List.range 6).all fun q => pM 34 q) = true := by kernel_rfl
theorem aRG : ((List.range 6).all fun q => pM 35 q) = true := by kernel_rfl
end Go.Proofs.Ytpjoapgfdjfbdaa.Ab
