/- FnClosed: tables of grids. Only lemmas. Printed by gen_closed.py. -/
import Derived.Test.YtlopdogjdfeikaaClL
namespace Go.Proofs.Ytlopdogjdfeikaa.Ab
set_option linter.unusedVariables false
set_option linter.unusedSimpArgs false
open Go
theorem Tgr_4 : (List.range 8).all (fun n => tgr 1075838976 (v_bx 1075838976 ((n + 1 : Nat) : Int)).2) = true := by kernel_rfl
theorem Tgr_5 : (List.range 8).all (fun n => tgr 1077936128 (v_bx 1077936128 ((n + 1 : Nat) : Int)).2) = true := by kernel_rfl
theorem Tgr_6 : (List.range 8).all (fun n => tgr 1080033280 (v_bx 1080033280 ((n + 1 : Nat) : Int)).2) = true := by kernel_rfl
theorem Tgr_7 : (List.range 8).all (fun n => tgr 1082130432 (v_bx 1082130432 ((n + 1 : Nat) : Int)).2) = true := by kernel_rfl
end Go.Proofs.Ytlopdogjdfeikaa.Ab
