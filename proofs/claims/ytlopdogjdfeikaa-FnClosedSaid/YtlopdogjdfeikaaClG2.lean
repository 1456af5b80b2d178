/- FnClosed: tables of grids. Only lemmas. Printed by gen_closed.py. -/
import Derived.Test.YtlopdogjdfeikaaClL
namespace Go.Proofs.Ytlopdogjdfeikaa.Ab
set_option linter.unusedVariables false
set_option linter.unusedSimpArgs false
open Go
theorem Tgr_8 : (List.range 8).all (fun n => tgr 1083179008 (v_bx 1083179008 ((n + 1 : Nat) : Int)).2) = true := by kernel_rfl
theorem Tgr_9 : (List.range 8).all (fun n => tgr 1084227584 (v_bx 1084227584 ((n + 1 : Nat) : Int)).2) = true := by kernel_rfl
theorem Tgr_10 : (List.range 8).all (fun n => tgr 1085276160 (v_bx 1085276160 ((n + 1 : Nat) : Int)).2) = true := by kernel_rfl
theorem Tgr_11 : (List.range 8).all (fun n => tgr 1086324736 (v_bx 1086324736 ((n + 1 : Nat) : Int)).2) = true := by kernel_rfl
end Go.Proofs.Ytlopdogjdfeikaa.Ab
