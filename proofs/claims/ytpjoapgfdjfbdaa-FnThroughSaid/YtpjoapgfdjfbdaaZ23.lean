/- What the proof names: lemmas and words, merged by a program from its parts. No condition. -/
import Derived.Test.YtpjoapgfdjfbdaaZ16
namespace Go.Proofs.Ytpjoapgfdjfbdaa.Ab
set_option linter.unusedVariables false
set_option linter.unusedSimpArgs false
open Go
theorem aRS : ((List.range 169).all fun i => prB 0 (i / 13) (i % 13)) = true := by kernel_rfl
theorem aRT : ((List.range 169).all fun i => prB 1 (i / 13) (i % 13)) = true := by kernel_rfl
theorem aRU : ((List.range 169).all fun i => prB 2 (i / 13) (i % 13)) = true := by kernel_rfl
theorem aRV : ((List.range 169).all fun i => prB 3 (i / 13) (i % 13)) = true := by kernel_rfl
theorem aRW : ((List.range 169).all fun i => prB 4 (i / 13) (i % 13)) = true := by kernel_rfl
theorem aRX : ((List.range 169).all fun i => prB 5 (i / 13) (i % 13)) = true := by kernel_rfl
theorem aRY : ((List.range 169).all fun i => prB 6 (i / 13) (i % 13)) = true := by kernel_rfl
theorem aRZ : ((List.range 169).all fun i => prB 7 (i / 13) (i % 13)) = true := by kernel_rfl
theorem aR0 : ((List.range 169).all fun i => prB 8 (i / 13) (i % 13)) = true := by kernel_rfl
theorem aR1 : ((List.range 169).all fun i => prB 9 (i / 13) (i % 13)) = true := by kernel_rfl
theorem aKD : ((List.range 169).all fun i => prB 10 (i / 13) (i % 13)) = true := by kernel_rfl
theorem aKE : ((List.range 169).all fun i => prB 11 (i / 13) (i % 13)) = true := by kernel_rfl
theorem aKF : ((List.range 169).all fun i => prB 12 (i / 13) (i % 13)) = true := by kernel_rfl
theorem aKG : ((List.range 169).all fun i => prB 13 (i / 13) (i % 13)) = true := by kernel_rfl
theorem aKH : ((List.range 169).all fun i => prB 14 (i / 13) (i % 13)) = true := by kernel_rfl
theorem aKI : ((List.range 169).all fun i => prB 15 (i / 13) (i % 13)) = true := by kernel_rfl
theorem aKJ : ((List.range 169).all fun i => prB 16 (i / 13) (i % 13)) = true := by kernel_rfl
theorem aKK : ((List.range 169).all fun i => prB 17 (i / 13) (i % 13)) = true := by kernel_rfl
theorem aKL : ((List.range 169).all fun i => prB 18 (i / 13) (i % 13)) = true := by kernel_rfl
theorem aKM : ((List.range 169).all fun i => prB 19 (i / 13) (i % 13)) = true := by kernel_rfl
theorem aKN : ((List.range 169).all fun i => prB 20 (i / 13) (i % 13)) = true := by kernel_rfl
theorem aKO : ((List.range 169).all fun i => prB 21 (i / 13) (i % 13)) = true := by kernel_rfl
theorem aKP : ((List.range 169).all fun i => prB 22 (i / 13) (i % 13)) = true := by kernel_rfl
theorem aKQ : ((List.range 169).all fun i => prB 23 (i / 13) (i % 13)) = true := by kernel_rfl
theorem aKR : ((List.range 169).all fun i => prB 24 (i / 13) (i % 13)) = true := by kernel_rfl
theorem aKS : ((List.range 169).all fun i => prB 25 (i / 13) (i % 13)) = true := by kernel_rfl
theorem aKT : ((List.range 169).all fun i => prB 26 (i / 13) (i % 13)) = true := by kernel_rfl
theorem aKU : ((List.range 169).all fun i => prB 27 (i / 13) (i % 13)) = true := by kernel_rfl
theorem aKV : ((List.range 169).all fun i => prB 28 (i / 13) (i % 13)) = true := by kernel_rfl
theorem aKW : ((List.range 169).all fun i => prB 29 (i / 13) (i % 13)) = true := by kernel_rfl
theorem aKX : ((List.range 169).all fun i => prB 30 (i / 13) (i % 13)) = true := by kernel_rfl
theorem aKY : ((List.range 169).all fun i => prB 31 (i / 13) (i % 13)) = true := by kernel_rfl
end Go.Proofs.Ytpjoapgfdjfbdaa.Ab
