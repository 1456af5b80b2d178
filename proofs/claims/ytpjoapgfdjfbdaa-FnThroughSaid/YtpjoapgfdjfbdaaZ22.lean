/- What the proof names: lemmas and words, merged by a program from its parts. No condition. -/
import Derived.Test.YtpjoapgfdjfbdaaZ16
namespace Go.Proofs.Ytpjoapgfdjfbdaa.Ab
set_option linter.unusedVariables false
set_option linter.unusedSimpArgs false
open Go
theorem aW1 : ((List.range 6).all fun q => agA 0 q) = true := by kernel_rfl
theorem aW2 : ((List.range 6).all fun q => agA 1 q) = true := by kernel_rfl
theorem aW3 : ((List.range 6).all fun q => agA 2 q) = true := by kernel_rfl
theorem aW4 : ((List.range 6).all fun q => agA 3 q) = true := by kernel_rfl
theorem aW5 : ((List.range 6).all fun q => agA 4 q) = true := by kernel_rfl
theorem aW6 : ((List.range 6).all fun q => agA 5 q) = true := by kernel_rfl
theorem aW7 : ((List.range 6).all fun q => agA 6 q) = true := by kernel_rfl
theorem aW8 : ((List.range 6).all fun q => agA 7 q) = true := by kernel_rfl
theorem aW9 : ((List.range 36).all kB) = true := by kernel_rfl
theorem aRH : ((List.range 32).all fun J => a1S J && (a1T J && a1U J)) = true := by kernel_rfl
theorem aXA : ((List.range 416).all fun i => rgB (i / 13) (i % 13) && rqB (i / 13) (i % 13)) = true := by kernel_rfl
theorem aRI : ((List.range 12).all fun q => phB 0 q) = true := by kernel_rfl
theorem aRJ : ((List.range 12).all fun q => phB 1 q) = true := by kernel_rfl
theorem aRK : ((List.range 12).all fun q => phB 2 q) = true := by kernel_rfl
theorem aRL : ((List.range 12).all fun q => phB 3 q) = true := by kernel_rfl
theorem aRM : ((List.range 12).all fun q => phB 4 q) = true := by kernel_rfl
theorem aRN : ((List.range 12).all fun q => phB 5 q) = true := by kernel_rfl
theorem aRO : ((List.range 12).all fun q => phB 6 q) = true := by kernel_rfl
theorem aRP : ((List.range 12).all fun q => phB 7 q) = true := by kernel_rfl
theorem aRQ : ((List.range 12).all fun q => phB 8 q) = true := by kernel_rfl
theorem aRR : ((List.range 12).all fun q => phB 9 q) = true := by kernel_rfl
theorem aJN : ((List.range 12).all fun q => phB 10 q) = true := by kernel_rfl
theorem aJO : ((List.range 12).all fun q => phB 11 q) = true := by kernel_rfl
theorem aJP : ((List.range 12).all fun q => phB 12 q) = true := by kernel_rfl
theorem aJQ : ((List.range 12).all fun q => phB 13 q) = true := by kernel_rfl
theorem aJR : ((List.range 12).all fun q => phB 14 q) = true := by kernel_rfl
theorem aJS : ((List.range 12).all fun q => phB 15 q) = true := by kernel_rfl
theorem aJT : ((List.range 12).all fun q => phB 16 q) = true := by kernel_rfl
theorem aJU : ((List.range 12).all fun q => phB 17 q) = true := by kernel_rfl
theorem aJV : ((List.range 12).all fun q => phB 18 q) = true := by kernel_rfl
theorem aJW : ((List.range 12).all fun q => phB 19 q) = true := by kernel_rfl
theorem aJX : ((List.range 12).all fun q => phB 20 q) = true := by kernel_rfl
theorem aJY : ((List.range 12).all fun q => phB 21 q) = true := by kernel_rfl
theorem aJZ : ((List.range 12).all fun q => phB 22 q) = true := by kernel_rfl
theorem aJ0 : ((List.range 12).all fun q => phB 23 q) = true := by kernel_rfl
theorem aJ1 : ((List.range 6).all fun q => phB 24 q) = true := by kernel_rfl
theorem aJ2 : ((List.range 6).all fun q => phB 25 q) = true := by kernel_rfl
theorem aJ3 : ((List.range 6).all fun q => phB 26 q) = true := by kernel_rfl
theorem aJ4 : ((List.range 6).all fun q => phB 27 q) = true := by kernel_rfl
theorem aJ5 : ((List.range 6).all fun q => phB 28 q) = true := by kernel_rfl
theorem aJ6 : ((List.range 6).all fun q => phB 29 q) = true := by kernel_rfl
theorem aJ7 : ((List.range 6).all fun q => phB 30 q) = true := by kernel_rfl
theorem aJ8 : ((List.range 6).all fun q => phB 31 q) = true := by kernel_rfl
theorem aJ9 : ((List.range 6).all fun q => phB 32 q) = true := by kernel_rfl
theorem aKA : ((List.range 6).all fun q => phB 33 q) = true := by kernel_rfl
theorem aKB : ((List.range 6).all fun q => phB 34 q) = true := by kernel_rfl
theorem aKC : ((List.range 6).all fun q => phB 35 q) = true := by kernel_rfl
theorem aXB : ((List.range 624).all fun i => exB (i / 78) (i / 6 % 13) (i % 6)) = true := by kernel_rfl
theorem aXC : ((List.range 2496).all fun i => ggB (i / 78) (i / 6 % 13) (i % 6)) = true := by kernel_rfl
end Go.Proofs.Ytpjoapgfdjfbdaa.Ab
