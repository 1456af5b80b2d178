/- FnClosed: tables of grids. Only lemmas. Printed by gen_closed.py. -/
import Derived.Test.YtlopdogjdfeikaaClL
namespace Go.Proofs.Ytlopdogjdfeikaa.Ab
set_option linter.unusedVariables false
set_option linter.unusedSimpArgs false
open Go
theorem Tgr_0 : (List.range 8).all (fun n => tgr 1056964608 (v_bx 1056964608 ((n + 1 : Nat) : Int)).2) = true := by kernel_rfl
theorem Tgr_1 : (List.range 8).all (fun n => tgr 1065353216 (v_bx 1065353216 ((n + 1 : Nat) : Int)).2) = true := by kernel_rfl
theorem Tgr_2 : (List.range 8).all (fun n => tgr 1069547520 (v_bx 1069547520 ((n + 1 : Nat) : Int)).2) = true := by kernel_rfl
theorem Tgr_3 : (List.range 8).all (fun n => tgr 1073741824 (v_bx 1073741824 ((n + 1 : Nat) : Int)).2) = true := by kernel_rfl
end Go.Proofs.Ytlopdogjdfeikaa.Ab
