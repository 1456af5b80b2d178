/- What the proof names: lemmas and words, merged by a program from its parts. No condition. -/
import Derived.Test.YtpjoapgfdjfbdaaZ16
namespace Go.Proofs.Ytpjoapgfdjfbdaa.Ab
set_option linter.unusedVariables false
set_option linter.unusedSimpArgs false
open Go
theorem aWR : ((List.range 12).all fun q => pM 0 q) = true := by kernel_rfl
theorem aWS : ((List.range 12).all fun q => pM 1 q) = true := by kernel_rfl
theorem aWT : ((List.range 12).all fun q => pM 2 q) = true := by kernel_rfl
theorem aWU : ((List.range 12).all fun q => pM 3 q) = true := by kernel_rfl
theorem aWV : ((List.range 12).all fun q => pM 4 q) = true := by kernel_rfl
theorem aWW : ((List.range 12).all fun q => pM 5 q) = true := by kernel_rfl
theorem aWX : ((List.range 12).all fun q => pM 6 q) = true := by kernel_rfl
theorem aWY : ((List.range 12).all fun q => pM 7 q) = true := by kernel_rfl
theorem aWZ : ((List.range 12).all fun q => pM 8 q) = true := by kernel_rfl
end Go.Proofs.Ytpjoapgfdjfbdaa.Ab
