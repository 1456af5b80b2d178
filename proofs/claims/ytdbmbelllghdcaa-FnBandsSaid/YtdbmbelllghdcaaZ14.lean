/- What the proof names: lemmas and words, merged by a program from its parts. No condition. -/
import Derived.Test.YtdbmbelllghdcaaZ10
namespace Go.Proofs.Ytdbmbelllghdcaa.Ab
set_option linter.unusedVariables false
set_option linter.unusedSimpArgs false
open Go
theorem tab_R3_0 : ((List.range 24).all fun i => chkR (24 + i / 6) (i % 6)) = true := by kernel_rfl
theorem tab_R3_1 : ((List.range 24).all fun i => chkR (28 + i / 6) (i % 6)) = true := by kernel_rfl
end Go.Proofs.Ytdbmbelllghdcaa.Ab
