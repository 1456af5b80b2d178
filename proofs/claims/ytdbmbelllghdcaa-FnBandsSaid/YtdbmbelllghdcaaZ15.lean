/- What the proof names: lemmas and words, merged by a program from its parts. No condition. -/
import Derived.Test.YtdbmbelllghdcaaZ10
namespace Go.Proofs.Ytdbmbelllghdcaa.Ab
set_option linter.unusedVariables false
set_option linter.unusedSimpArgs false
open Go
theorem tab_I0_0 : ((List.range 24).all fun i => chkI (0 + i / 6) (i % 6)) = true := by kernel_rfl
theorem tab_I0_1 : ((List.range 24).all fun i => chkI (4 + i / 6) (i % 6)) = true := by kernel_rfl
end Go.Proofs.Ytdbmbelllghdcaa.Ab
