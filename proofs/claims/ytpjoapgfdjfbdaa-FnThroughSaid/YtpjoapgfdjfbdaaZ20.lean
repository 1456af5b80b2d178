/- What the proof names: lemmas and words, merged by a program from its parts. No condition. -/
import Derived.Test.YtpjoapgfdjfbdaaZ16
namespace Go.Proofs.Ytpjoapgfdjfbdaa.Ab
set_option linter.unusedVariables false
set_option linter.unusedSimpArgs false
open Go
theorem aQZ : ((List.range 12).all fun q => pM 18 q) = true := by kernel_rfl
theorem aQ0 : ((List.range 12).all fun q => pM 19 q) = true := by kernel_rfl
theorem aQ1 : ((List.range 12).all fun q => pM 20 q) = true := by kernel_rfl
theorem aQ2 : ((List.range 12).all fun q => pM 21 q) = true := by kernel_rfl
theorem aQ3 : ((List.range 12).all fun q => pM 22 q) = true := by kernel_rfl
theorem aQ4 : ((List.range 12).all fun q => pM 23 q) = true := by kernel_rfl
theorem aQ5 : ((List.range 6).all fun q => pM 24 q) = true := by kernel_rfl
theorem aQ6 : ((List.range 6).all fun q => pM 25 q) = true := by kernel_rfl
theorem aQ7 : ((List.range 6).all fun q => pM 26 q) = true := by kernel_rfl
end Go.Proofs.Ytpjoapgfdjfbdaa.Ab
