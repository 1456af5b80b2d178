/- What the proof names: lemmas and words, merged by a program from its parts. No condition. -/
import Derived.Test.YtpjoapgfdjfbdaaZ24
namespace Go.Proofs.Ytpjoapgfdjfbdaa.Ab
set_option linter.unusedVariables false
set_option linter.unusedSimpArgs false
open Go
theorem aR4 : ((List.range 78).all fun i => xr 0 0 (0 + i)) = true := by kernel_rfl
theorem aR5 : ((List.range 78).all fun i => xr 0 1 (0 + i)) = true := by kernel_rfl
theorem aR6 : ((List.range 78).all fun i => xr 0 2 (0 + i)) = true := by kernel_rfl
theorem aR7 : ((List.range 78).all fun i => xr 0 3 (0 + i)) = true := by kernel_rfl
theorem aR8 : ((List.range 78).all fun i => xr 0 4 (0 + i)) = true := by kernel_rfl
theorem aR9 : ((List.range 78).all fun i => xr 0 5 (0 + i)) = true := by kernel_rfl
theorem aSA : ((List.range 78).all fun i => xr 1 0 (0 + i)) = true := by kernel_rfl
theorem aSB : ((List.range 78).all fun i => xr 1 1 (0 + i)) = true := by kernel_rfl
theorem aSC : ((List.range 78).all fun i => xr 1 2 (0 + i)) = true := by kernel_rfl
theorem aSD : ((List.range 78).all fun i => xr 1 3 (0 + i)) = true := by kernel_rfl
theorem aSE : ((List.range 78).all fun i => xr 1 4 (0 + i)) = true := by kernel_rfl
theorem aSF : ((List.range 78).all fun i => xr 1 5 (0 + i)) = true := by kernel_rfl
theorem aSG : ((List.range 78).all fun i => xr 2 0 (0 + i)) = true := by kernel_rfl
theorem aSH : ((List.range 78).all fun i => xr 2 1 (0 + i)) = true := by kernel_rfl
theorem aSI : ((List.range 78).all fun i => xr 2 2 (0 + i)) = true := by kernel_rfl
theorem aSJ : ((List.range 78).all fun i => xr 2 3 (0 + i)) = true := by kernel_rfl
theorem aSK : ((List.range 78).all fun i => xr 2 4 (0 + i)) = true := by kernel_rfl
theorem aSL : ((List.range 78).all fun i => xr 2 5 (0 + i)) = true := by kernel_rfl
theorem aSM : ((List.range 78).all fun i => xr 3 0 (0 + i)) = true := by kernel_rfl
theorem aSN : ((List.range 78).all fun i => xr 3 1 (0 + i)) = true := by kernel_rfl
theorem aSO : ((List.range 78).all fun i => xr 3 2 (0 + i)) = true := by kernel_rfl
theorem aSP : ((List.range 78).all fun i => xr 3 3 (0 + i)) = true := by kernel_rfl
theorem aSQ : ((List.range 78).all fun i => xr 3 4 (0 + i)) = true := by kernel_rfl
theorem aSR : ((List.range 78).all fun i => xr 3 5 (0 + i)) = true := by kernel_rfl
theorem aSS : ((List.range 78).all fun i => xr 4 0 (0 + i)) = true := by kernel_rfl
theorem aST : ((List.range 78).all fun i => xr 4 1 (0 + i)) = true := by kernel_rfl
theorem aSU : ((List.range 78).all fun i => xr 4 2 (0 + i)) = true := by kernel_rfl
theorem aSV : ((List.range 78).all fun i => xr 4 3 (0 + i)) = true := by kernel_rfl
theorem aSW : ((List.range 78).all fun i => xr 4 4 (0 + i)) = true := by kernel_rfl
theorem aSX : ((List.range 78).all fun i => xr 4 5 (0 + i)) = true := by kernel_rfl
theorem aSY : ((List.range 78).all fun i => xr 5 0 (0 + i)) = true := by kernel_rfl
theorem aSZ : ((List.range 78).all fun i => xr 5 1 (0 + i)) = true := by kernel_rfl
theorem aZB : ∀ i, i < 78 → xr 0 0 i = true := iJ (jK _) aR4
theorem aZC : ∀ i, i < 78 → xr 0 1 i = true := iJ (jK _) aR5
theorem aZD : ∀ i, i < 78 → xr 0 2 i = true := iJ (jK _) aR6
theorem aZE : ∀ i, i < 78 → xr 0 3 i = true := iJ (jK _) aR7
theorem aZF : ∀ i, i < 78 → xr 0 4 i = true := iJ (jK _) aR8
theorem aZG : ∀ i, i < 78 → xr 0 5 i = true := iJ (jK _) aR9
theorem aZH : ∀ i, i < 78 → xr 1 0 i = true := iJ (jK _) aSA
theorem aZI : ∀ i, i < 78 → xr 1 1 i = true := iJ (jK _) aSB
theorem aZJ : ∀ i, i < 78 → xr 1 2 i = true := iJ (jK _) aSC
theorem aZK : ∀ i, i < 78 → xr 1 3 i = true := iJ (jK _) aSD
theorem aZL : ∀ i, i < 78 → xr 1 4 i = true := iJ (jK _) aSE
theorem aZM : ∀ i, i < 78 → xr 1 5 i = true := iJ (jK _) aSF
theorem aZN : ∀ i, i < 78 → xr 2 0 i = true := iJ (jK _) aSG
theorem aZO : ∀ i, i < 78 → xr 2 1 i = true := iJ (jK _) aSH
theorem aZP : ∀ i, i < 78 → xr 2 2 i = true := iJ (jK _) aSI
theorem aZQ : ∀ i, i < 78 → xr 2 3 i = true := iJ (jK _) aSJ
theorem aZR : ∀ i, i < 78 → xr 2 4 i = true := iJ (jK _) aSK
theorem aZS : ∀ i, i < 78 → xr 2 5 i = true := iJ (jK _) aSL
theorem aZT : ∀ i, i < 78 → xr 3 0 i = true := iJ (jK _) aSM
theorem aZU : ∀ i, i < 78 → xr 3 1 i = true := iJ (jK _) aSN
theorem aZV : ∀ i, i < 78 → xr 3 2 i = true := iJ (jK _) aSO
theorem aZW : ∀ i, i < 78 → xr 3 3 i = true := iJ (jK _) aSP
theorem aZX : ∀ i, i < 78 → xr 3 4 i = true := iJ (jK _) aSQ
theorem aZY : ∀ i, i < 78 → xr 3 5 i = true := iJ (jK _) aSR
theorem aZZ : ∀ i, i < 78 → xr 4 0 i = true := iJ (jK _) aSS
theorem aZ0 : ∀ i, i < 78 → xr 4 1 i = true := iJ (jK _) aST
theorem aZ1 : ∀ i, i < 78 → xr 4 2 i = true := iJ (jK _) aSU
theorem aZ2 : ∀ i, i < 78 → xr 4 3 i = true := iJ (jK _) aSV
theorem aZ3 : ∀ i, i < 78 → xr 4 4 i = true := iJ (jK _) aSW
theorem aZ4 : ∀ i, i < 78 → xr 4 5 i = true := iJ (jK _) aSX
theorem aZ5 : ∀ i, i < 78 → xr 5 0 i = true := iJ (jK _) aSY
theorem aZ6 : ∀ i, i < 78 → xr 5 1 i = true := iJ (jK _) aSZ
end Go.Proofs.Ytpjoapgfdjfbdaa.Ab
