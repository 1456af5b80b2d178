/- FnClosed: tables of grids. Only lemmas. Printed by gen_closed.py. -/
import Derived.Test.YtlopdogjdfeikaaClL
namespace Go.Proofs.Ytlopdogjdfeikaa.Ab
set_option linter.unusedVariables false
set_option linter.unusedSimpArgs false
open Go
theorem Tgr_12 : (List.range 8).all (fun n => tgr 1087373312 (v_bx 1087373312 ((n + 1 : Nat) : Int)).2) = true := by kernel_rfl
theorem Tgr_13 : (List.range 8).all (fun n => tgr 1088421888 (v_bx 1088421888 ((n + 1 : Nat) : Int)).2) = true := by kernel_rfl
theorem Tgr_14 : (List.range 8).all (fun n => tgr 1089470464 (v_bx 1089470464 ((n + 1 : Nat) : Int)).2) = true := by kernel_rfl
theorem Tgr_15 : (List.range 8).all (fun n => tgr 1090519040 (v_bx 1090519040 ((n + 1 : Nat) : Int)).2) = true := by kernel_rfl
end Go.Proofs.Ytlopdogjdfeikaa.Ab
