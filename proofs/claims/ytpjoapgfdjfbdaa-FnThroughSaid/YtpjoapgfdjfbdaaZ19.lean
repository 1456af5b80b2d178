/- What the proof names: lemmas and words, merged by a program from its parts. No condition. -/
import Derived.Test.YtpjoapgfdjfbdaaZ16
namespace Go.Proofs.Ytpjoapgfdjfbdaa.Ab
set_option linter.unusedVariables false
set_option linter.unusedSimpArgs false
open Go
theorem aW0 : ((List.range 12).all fun q => pM 9 q) = true := by kernel_rfl
theorem aQR : ((List.range 12).all fun q => pM 10 q) = true := by kernel_rfl
theorem aQS : ((List.range 12).all fun q => pM 11 q) = true := by kernel_rfl
theorem aQT : ((List.range 12).all fun q => pM 12 q) = true := by kernel_rfl
theorem aQU : ((List.range 12).all fun q => pM 13 q) = true := by kernel_rfl
theorem aQV : ((List.range 12).all fun q => pM 14 q) = true := by kernel_rfl
theorem aQW : ((List.range 12).all fun q => pM 15 q) = true := by kernel_rfl
theorem aQX : ((List.range 12).all fun q => pM 16 q) = true := by kernel_rfl
theorem aQY : ((List.range 12).all fun q => pM 17 q) = true := by kernel_rfl
end Go.Proofs.Ytpjoapgfdjfbdaa.Ab
