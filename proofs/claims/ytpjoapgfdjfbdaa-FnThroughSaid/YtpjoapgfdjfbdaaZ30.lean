/- What the proof names: lemmas and words, merged by a program from its parts. No condition. -/
import Derived.Test.YtpjoapgfdjfbdaaZ24
namespace Go.Proofs.Ytpjoapgfdjfbdaa.Ab
set_option linter.unusedVariables false
set_option linter.unusedSimpArgs false
open Go
theorem aLV : ((List.range 468).all fun i => xB 1 0 (i / 78) (i / 6 % 13) (i % 6)) = true := by kernel_rfl
theorem aLW : ((List.range 468).all fun i => xB 1 1 (i / 78) (i / 6 % 13) (i % 6)) = true := by kernel_rfl
theorem aLX : ((List.range 468).all fun i => xB 1 2 (i / 78) (i / 6 % 13) (i % 6)) = true := by kernel_rfl
theorem aLY : ((List.range 468).all fun i => xB 1 3 (i / 78) (i / 6 % 13) (i % 6)) = true := by kernel_rfl
theorem aLZ : ((List.range 468).all fun i => xB 1 4 (i / 78) (i / 6 % 13) (i % 6)) = true := by kernel_rfl
theorem aL0 : ((List.range 468).all fun i => xB 1 5 (i / 78) (i / 6 % 13) (i % 6)) = true := by kernel_rfl
theorem aL1 : ((List.range 468).all fun i => xB 1 6 (i / 78) (i / 6 % 13) (i % 6)) = true := by kernel_rfl
theorem aL2 : ((List.range 468).all fun i => xB 1 7 (i / 78) (i / 6 % 13) (i % 6)) = true := by kernel_rfl
theorem aL3 : ((List.range 468).all fun i => xB 1 8 (i / 78) (i / 6 % 13) (i % 6)) = true := by kernel_rfl
theorem aL4 : ((List.range 468).all fun i => xB 1 9 (i / 78) (i / 6 % 13) (i % 6)) = true := by kernel_rfl
theorem aEV : ((List.range 468).all fun i => xB 1 10 (i / 78) (i / 6 % 13) (i % 6)) = true := by kernel_rfl
theorem aEW : ((List.range 468).all fun i => xB 1 11 (i / 78) (i / 6 % 13) (i % 6)) = true := by kernel_rfl
theorem aEX : ((List.range 468).all fun i => xB 1 12 (i / 78) (i / 6 % 13) (i % 6)) = true := by kernel_rfl
theorem aL5 : ((List.range 468).all fun i => xB 2 0 (i / 78) (i / 6 % 13) (i % 6)) = true := by kernel_rfl
theorem aL6 : ((List.range 468).all fun i => xB 2 1 (i / 78) (i / 6 % 13) (i % 6)) = true := by kernel_rfl
theorem aL7 : ((List.range 468).all fun i => xB 2 2 (i / 78) (i / 6 % 13) (i % 6)) = true := by kernel_rfl
theorem aL8 : ((List.range 468).all fun i => xB 2 3 (i / 78) (i / 6 % 13) (i % 6)) = true := by kernel_rfl
theorem aL9 : ((List.range 468).all fun i => xB 2 4 (i / 78) (i / 6 % 13) (i % 6)) = true := by kernel_rfl
theorem aMA : ((List.range 468).all fun i => xB 2 5 (i / 78) (i / 6 % 13) (i % 6)) = true := by kernel_rfl
theorem aMB : ((List.range 468).all fun i => xB 2 6 (i / 78) (i / 6 % 13) (i % 6)) = true := by kernel_rfl
theorem aMC : ((List.range 468).all fun i => xB 2 7 (i / 78) (i / 6 % 13) (i % 6)) = true := by kernel_rfl
theorem aMD : ((List.range 468).all fun i => xB 2 8 (i / 78) (i / 6 % 13) (i % 6)) = true := by kernel_rfl
theorem aME : ((List.range 468).all fun i => xB 2 9 (i / 78) (i / 6 % 13) (i % 6)) = true := by kernel_rfl
theorem aEY : ((List.range 468).all fun i => xB 2 10 (i / 78) (i / 6 % 13) (i % 6)) = true := by kernel_rfl
theorem aEZ : ((List.range 468).all fun i => xB 2 11 (i / 78) (i / 6 % 13) (i % 6)) = true := by kernel_rfl
theorem aE0 : ((List.range 468).all fun i => xB 2 12 (i / 78) (i / 6 % 13) (i % 6)) = true := by kernel_rfl
end Go.Proofs.Ytpjoapgfdjfbdaa.Ab
