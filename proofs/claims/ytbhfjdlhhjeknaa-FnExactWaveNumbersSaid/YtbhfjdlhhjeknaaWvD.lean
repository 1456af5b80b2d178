/- WaveNumbers: the row. Only lemmas. Printed by gen_waven.py. -/
import Derived.Test.YtbhfjdlhhjeknaaWvC
namespace Go.Proofs.Ytbhfjdlhhjeknaa.Ab
set_option linter.unusedVariables false
set_option linter.unusedSimpArgs false
open Go
def tab_A_stlawsszFloat32S_0 : Fns := tabT []
theorem tabok_A_stlawsszFloat32S_0 : ∀ f, FnT Try.prog f (tab_A_stlawsszFloat32S_0 f) := tabT_nil
theorem run_A_stlawsszFloat32S_0 (N : Nat) (a0n : Nat) (a1 : Int) (r0 : Bool) (l0 : List Nat) : run ty tab_A_stlawsszFloat32S_0 ann0 N Try.f65 [.sl 0 0 a0n, .int .i64 a1] [.at r0 (.fl .f32 l0)]
    = (match decide ((IntKind.i64.wrap (a1 - ((a0n : Nat) : Int)) : Int) < 0) with | true => some (.int .i64 (-1), [.at r0 (.fl .f32 l0)]) | false => some (.int .i64 (IntKind.i64.wrap (a1 - ((a0n : Nat) : Int))), [.at r0 (.fl .f32 l0)])) := by
  kernel_rfl

def tab_A_stlawsszFloat32S_1 : Fns := tabT []
theorem tabok_A_stlawsszFloat32S_1 : ∀ f, FnT Try.prog f (tab_A_stlawsszFloat32S_1 f) := tabT_nil
theorem run_A_stlawsszFloat32S_1 (N : Nat) (a1 : Int) : run ty tab_A_stlawsszFloat32S_1 ann0 N Try.f65 [.nil, .int .i64 a1] []
    = (match decide ((IntKind.i64.wrap (a1 - 0) : Int) < 0) with | true => some (.int .i64 (-1), []) | false => some (.int .i64 (IntKind.i64.wrap (a1 - 0)), [])) := by
  kernel_rfl

def gA_stlawsszFloat32S : GT := fun vs h => match vs, h with
  | [.sl 0 0 a0n, .int .i64 a1], [.at r0 (.fl .f32 l0)] => .ite (decide ((IntKind.i64.wrap (a1 - ((a0n : Nat) : Int)) : Int) < 0)) (.ret (.int .i64 (-1)) [.at r0 (.fl .f32 l0)]) (.ret (.int .i64 (IntKind.i64.wrap (a1 - ((a0n : Nat) : Int)))) [.at r0 (.fl .f32 l0)])
  | [.nil, .int .i64 a1], [] => .ite (decide ((IntKind.i64.wrap (a1 - 0) : Int) < 0)) (.ret (.int .i64 (-1)) []) (.ret (.int .i64 (IntKind.i64.wrap (a1 - 0))) [])
  | _, _ => .no
theorem okA_stlawsszFloat32S : FnT Try.prog 65 gA_stlawsszFloat32S := by
  intro vs hp v h' e
  unfold gA_stlawsszFloat32S at e
  split at e
  · exact FnT.runs tabok_A_stlawsszFloat32S_0 Try.func65 rfl rfl ann0 0 _ _ v h' (by rw [T.run_of]; exact Eq.trans (run_A_stlawsszFloat32S_0 0 _ _ _ _) e)
  · exact FnT.runs tabok_A_stlawsszFloat32S_1 Try.func65 rfl rfl ann0 0 _ _ v h' (by rw [T.run_of]; exact Eq.trans (run_A_stlawsszFloat32S_1 0 _) e)
  · exact (T.no_inv e).elim
def tab_A_stlawsszSteps_0 : Fns := tabT [(65, gA_stlawsszFloat32S)]
theorem tabok_A_stlawsszSteps_0 : ∀ f, FnT Try.prog f (tab_A_stlawsszSteps_0 f) := (tabT_cons (k := 65) okA_stlawsszFloat32S tabT_nil)
theorem run_A_stlawsszSteps_0 (N : Nat) (a0_0n : Nat) (a0_1n : Nat) (a1 : Int) (r0 : Bool) (l0 : List Nat) (r1 : Bool) (l1 : List Nat) : run ty tab_A_stlawsszSteps_0 ann0 N Try.f15 [.g [.sl 0 0 a0_0n, .sl 1 0 a0_1n], .int .i64 a1] [.at r0 (.fl .f32 l0), .at r1 (.fl .f32 l1)]
    = (match decide ((IntKind.i64.wrap (a1 - ((a0_0n : Nat) : Int)) : Int) < 0) with | true => some (.int .i64 (-1), [.at r0 (.fl .f32 l0), .at r1 (.fl .f32 l1)]) | false => (match decide ((IntKind.i64.wrap (a1 - ((a0_0n : Nat) : Int)) : Int) < 0) with | true => some (.int .i64 (-1), [.at r0 (.fl .f32 l0), .at r1 (.fl .f32 l1)]) | false => (match decide ((IntKind.i64.wrap ((IntKind.i64.wrap (a1 - ((a0_0n : Nat) : Int))) - ((a0_1n : Nat) : Int)) : Int) < 0) with | true => some (.int .i64 (-1), [.at r0 (.fl .f32 l0), .at r1 (.fl .f32 l1)]) | false => (match decide ((IntKind.i64.wrap ((IntKind.i64.wrap (a1 - ((a0_0n : Nat) : Int))) - ((a0_1n : Nat) : Int)) : Int) < 0) with | true => some (.int .i64 (-1), [.at r0 (.fl .f32 l0), .at r1 (.fl .f32 l1)]) | false => some (.int .i64 (IntKind.i64.wrap ((IntKind.i64.wrap (a1 - ((a0_0n : Nat) : Int))) - ((a0_1n : Nat) : Int))), [.at r0 (.fl .f32 l0), .at r1 (.fl .f32 l1)]))))) := by
  kernel_rfl

def tab_A_stlawsszSteps_1 : Fns := tabT [(65, gA_stlawsszFloat32S)]
theorem tabok_A_stlawsszSteps_1 : ∀ f, FnT Try.prog f (tab_A_stlawsszSteps_1 f) := (tabT_cons (k := 65) okA_stlawsszFloat32S tabT_nil)
theorem run_A_stlawsszSteps_1 (N : Nat) (a0_0n : Nat) (a1 : Int) (r0 : Bool) (l0 : List Nat) : run ty tab_A_stlawsszSteps_1 ann0 N Try.f15 [.g [.sl 0 0 a0_0n, .nil], .int .i64 a1] [.at r0 (.fl .f32 l0)]
    = (match decide ((IntKind.i64.wrap (a1 - ((a0_0n : Nat) : Int)) : Int) < 0) with | true => some (.int .i64 (-1), [.at r0 (.fl .f32 l0)]) | false => (match decide ((IntKind.i64.wrap (a1 - ((a0_0n : Nat) : Int)) : Int) < 0) with | true => some (.int .i64 (-1), [.at r0 (.fl .f32 l0)]) | false => (match decide ((IntKind.i64.wrap ((IntKind.i64.wrap (a1 - ((a0_0n : Nat) : Int))) - 0) : Int) < 0) with | true => some (.int .i64 (-1), [.at r0 (.fl .f32 l0)]) | false => (match decide ((IntKind.i64.wrap ((IntKind.i64.wrap (a1 - ((a0_0n : Nat) : Int))) - 0) : Int) < 0) with | true => some (.int .i64 (-1), [.at r0 (.fl .f32 l0)]) | false => some (.int .i64 (IntKind.i64.wrap ((IntKind.i64.wrap (a1 - ((a0_0n : Nat) : Int))) - 0)), [.at r0 (.fl .f32 l0)]))))) := by
  kernel_rfl

def tab_A_stlawsszSteps_2 : Fns := tabT [(65, gA_stlawsszFloat32S)]
theorem tabok_A_stlawsszSteps_2 : ∀ f, FnT Try.prog f (tab_A_stlawsszSteps_2 f) := (tabT_cons (k := 65) okA_stlawsszFloat32S tabT_nil)
theorem run_A_stlawsszSteps_2 (N : Nat) (a0_1n : Nat) (a1 : Int) (r0 : Bool) (l0 : List Nat) : run ty tab_A_stlawsszSteps_2 ann0 N Try.f15 [.g [.nil, .sl 0 0 a0_1n], .int .i64 a1] [.at r0 (.fl .f32 l0)]
    = (match decide ((IntKind.i64.wrap (a1 - 0) : Int) < 0) with | true => some (.int .i64 (-1), [.at r0 (.fl .f32 l0)]) | false => (match decide ((IntKind.i64.wrap (a1 - 0) : Int) < 0) with | true => some (.int .i64 (-1), [.at r0 (.fl .f32 l0)]) | false => (match decide ((IntKind.i64.wrap ((IntKind.i64.wrap (a1 - 0)) - ((a0_1n : Nat) : Int)) : Int) < 0) with | true => some (.int .i64 (-1), [.at r0 (.fl .f32 l0)]) | false => (match decide ((IntKind.i64.wrap ((IntKind.i64.wrap (a1 - 0)) - ((a0_1n : Nat) : Int)) : Int) < 0) with | true => some (.int .i64 (-1), [.at r0 (.fl .f32 l0)]) | false => some (.int .i64 (IntKind.i64.wrap ((IntKind.i64.wrap (a1 - 0)) - ((a0_1n : Nat) : Int))), [.at r0 (.fl .f32 l0)]))))) := by
  kernel_rfl

def tab_A_stlawsszSteps_3 : Fns := tabT [(65, gA_stlawsszFloat32S)]
theorem tabok_A_stlawsszSteps_3 : ∀ f, FnT Try.prog f (tab_A_stlawsszSteps_3 f) := (tabT_cons (k := 65) okA_stlawsszFloat32S tabT_nil)
theorem run_A_stlawsszSteps_3 (N : Nat) (a1 : Int) : run ty tab_A_stlawsszSteps_3 ann0 N Try.f15 [.g [.nil, .nil], .int .i64 a1] []
    = (match decide ((IntKind.i64.wrap (a1 - 0) : Int) < 0) with | true => some (.int .i64 (-1), []) | false => (match decide ((IntKind.i64.wrap (a1 - 0) : Int) < 0) with | true => some (.int .i64 (-1), []) | false => (match decide ((IntKind.i64.wrap ((IntKind.i64.wrap (a1 - 0)) - 0) : Int) < 0) with | true => some (.int .i64 (-1), []) | false => (match decide ((IntKind.i64.wrap ((IntKind.i64.wrap (a1 - 0)) - 0) : Int) < 0) with | true => some (.int .i64 (-1), []) | false => some (.int .i64 (IntKind.i64.wrap ((IntKind.i64.wrap (a1 - 0)) - 0)), []))))) := by
  kernel_rfl

def gA_stlawsszSteps : GT := fun vs h => match vs, h with
  | [.g [.sl 0 0 a0_0n, .sl 1 0 a0_1n], .int .i64 a1], [.at r0 (.fl .f32 l0), .at r1 (.fl .f32 l1)] => .ite (decide ((IntKind.i64.wrap (a1 - ((a0_0n : Nat) : Int)) : Int) < 0)) (.ret (.int .i64 (-1)) [.at r0 (.fl .f32 l0), .at r1 (.fl .f32 l1)]) (.ite (decide ((IntKind.i64.wrap (a1 - ((a0_0n : Nat) : Int)) : Int) < 0)) (.ret (.int .i64 (-1)) [.at r0 (.fl .f32 l0), .at r1 (.fl .f32 l1)]) (.ite (decide ((IntKind.i64.wrap ((IntKind.i64.wrap (a1 - ((a0_0n : Nat) : Int))) - ((a0_1n : Nat) : Int)) : Int) < 0)) (.ret (.int .i64 (-1)) [.at r0 (.fl .f32 l0), .at r1 (.fl .f32 l1)]) (.ite (decide ((IntKind.i64.wrap ((IntKind.i64.wrap (a1 - ((a0_0n : Nat) : Int))) - ((a0_1n : Nat) : Int)) : Int) < 0)) (.ret (.int .i64 (-1)) [.at r0 (.fl .f32 l0), .at r1 (.fl .f32 l1)]) (.ret (.int .i64 (IntKind.i64.wrap ((IntKind.i64.wrap (a1 - ((a0_0n : Nat) : Int))) - ((a0_1n : Nat) : Int)))) [.at r0 (.fl .f32 l0), .at r1 (.fl .f32 l1)]))))
  | [.g [.sl 0 0 a0_0n, .nil], .int .i64 a1], [.at r0 (.fl .f32 l0)] => .ite (decide ((IntKind.i64.wrap (a1 - ((a0_0n : Nat) : Int)) : Int) < 0)) (.ret (.int .i64 (-1)) [.at r0 (.fl .f32 l0)]) (.ite (decide ((IntKind.i64.wrap (a1 - ((a0_0n : Nat) : Int)) : Int) < 0)) (.ret (.int .i64 (-1)) [.at r0 (.fl .f32 l0)]) (.ite (decide ((IntKind.i64.wrap ((IntKind.i64.wrap (a1 - ((a0_0n : Nat) : Int))) - 0) : Int) < 0)) (.ret (.int .i64 (-1)) [.at r0 (.fl .f32 l0)]) (.ite (decide ((IntKind.i64.wrap ((IntKind.i64.wrap (a1 - ((a0_0n : Nat) : Int))) - 0) : Int) < 0)) (.ret (.int .i64 (-1)) [.at r0 (.fl .f32 l0)]) (.ret (.int .i64 (IntKind.i64.wrap ((IntKind.i64.wrap (a1 - ((a0_0n : Nat) : Int))) - 0))) [.at r0 (.fl .f32 l0)]))))
  | [.g [.nil, .sl 0 0 a0_1n], .int .i64 a1], [.at r0 (.fl .f32 l0)] => .ite (decide ((IntKind.i64.wrap (a1 - 0) : Int) < 0)) (.ret (.int .i64 (-1)) [.at r0 (.fl .f32 l0)]) (.ite (decide ((IntKind.i64.wrap (a1 - 0) : Int) < 0)) (.ret (.int .i64 (-1)) [.at r0 (.fl .f32 l0)]) (.ite (decide ((IntKind.i64.wrap ((IntKind.i64.wrap (a1 - 0)) - ((a0_1n : Nat) : Int)) : Int) < 0)) (.ret (.int .i64 (-1)) [.at r0 (.fl .f32 l0)]) (.ite (decide ((IntKind.i64.wrap ((IntKind.i64.wrap (a1 - 0)) - ((a0_1n : Nat) : Int)) : Int) < 0)) (.ret (.int .i64 (-1)) [.at r0 (.fl .f32 l0)]) (.ret (.int .i64 (IntKind.i64.wrap ((IntKind.i64.wrap (a1 - 0)) - ((a0_1n : Nat) : Int)))) [.at r0 (.fl .f32 l0)]))))
  | [.g [.nil, .nil], .int .i64 a1], [] => .ite (decide ((IntKind.i64.wrap (a1 - 0) : Int) < 0)) (.ret (.int .i64 (-1)) []) (.ite (decide ((IntKind.i64.wrap (a1 - 0) : Int) < 0)) (.ret (.int .i64 (-1)) []) (.ite (decide ((IntKind.i64.wrap ((IntKind.i64.wrap (a1 - 0)) - 0) : Int) < 0)) (.ret (.int .i64 (-1)) []) (.ite (decide ((IntKind.i64.wrap ((IntKind.i64.wrap (a1 - 0)) - 0) : Int) < 0)) (.ret (.int .i64 (-1)) []) (.ret (.int .i64 (IntKind.i64.wrap ((IntKind.i64.wrap (a1 - 0)) - 0))) []))))
  | _, _ => .no
theorem okA_stlawsszSteps : FnT Try.prog 15 gA_stlawsszSteps := by
  intro vs hp v h' e
  unfold gA_stlawsszSteps at e
  split at e
  · exact FnT.runs tabok_A_stlawsszSteps_0 Try.func15 rfl rfl ann0 0 _ _ v h' (by rw [T.run_of]; exact Eq.trans (run_A_stlawsszSteps_0 0 _ _ _ _ _ _ _) e)
  · exact FnT.runs tabok_A_stlawsszSteps_1 Try.func15 rfl rfl ann0 0 _ _ v h' (by rw [T.run_of]; exact Eq.trans (run_A_stlawsszSteps_1 0 _ _ _ _) e)
  · exact FnT.runs tabok_A_stlawsszSteps_2 Try.func15 rfl rfl ann0 0 _ _ v h' (by rw [T.run_of]; exact Eq.trans (run_A_stlawsszSteps_2 0 _ _ _ _) e)
  · exact FnT.runs tabok_A_stlawsszSteps_3 Try.func15 rfl rfl ann0 0 _ _ v h' (by rw [T.run_of]; exact Eq.trans (run_A_stlawsszSteps_3 0 _) e)
  · exact (T.no_inv e).elim
def tab_A_stlawstoSteps_0 : Fns := tabT [(69, g_toF)]
theorem tabok_A_stlawstoSteps_0 : ∀ f, FnT Try.prog f (tab_A_stlawstoSteps_0 f) := (tabT_cons (k := 69) ok_toF tabT_nil)
theorem run_A_stlawstoSteps_0 (N : Nat) (a0_0n : Nat) (a0_1n : Nat) (r0 : Bool) (l0 : List Nat) (r1 : Bool) (l1 : List Nat) : run ty tab_A_stlawstoSteps_0 ann0 N Try.f17 [.g [.sl 0 0 a0_0n, .sl 1 0 a0_1n]] [.at r0 (.fl .f32 l0), .at r1 (.fl .f32 l1)]
    = (match decide (l0.length = a0_0n ∧ a0_0n < 2147483648) with | true => (match decide (l1.length = a0_1n ∧ a0_1n < 2147483648) with | true => some (.g [.sl 2 0 a0_0n, .sl 3 0 a0_1n], [.at r0 (.fl .f32 l0), .at r1 (.fl .f32 l1), .at true (.fl .f32 l0), .at true (.fl .f32 l1)]) | false => none) | false => none) := by
  kernel_rfl

def tab_A_stlawstoSteps_1 : Fns := tabT [(69, g_toF)]
theorem tabok_A_stlawstoSteps_1 : ∀ f, FnT Try.prog f (tab_A_stlawstoSteps_1 f) := (tabT_cons (k := 69) ok_toF tabT_nil)
theorem run_A_stlawstoSteps_1 (N : Nat) (a0_0n : Nat) (r0 : Bool) (l0 : List Nat) : run ty tab_A_stlawstoSteps_1 ann0 N Try.f17 [.g [.sl 0 0 a0_0n, .nil]] [.at r0 (.fl .f32 l0)]
    = (match decide (l0.length = a0_0n ∧ a0_0n < 2147483648) with | true => some (.g [.sl 1 0 a0_0n, .sl 2 0 0], [.at r0 (.fl .f32 l0), .at true (.fl .f32 l0), .at true (.fl .f32 ([] : List Nat))]) | false => none) := by
  kernel_rfl

def tab_A_stlawstoSteps_2 : Fns := tabT [(69, g_toF)]
theorem tabok_A_stlawstoSteps_2 : ∀ f, FnT Try.prog f (tab_A_stlawstoSteps_2 f) := (tabT_cons (k := 69) ok_toF tabT_nil)
theorem run_A_stlawstoSteps_2 (N : Nat) (a0_1n : Nat) (r0 : Bool) (l0 : List Nat) : run ty tab_A_stlawstoSteps_2 ann0 N Try.f17 [.g [.nil, .sl 0 0 a0_1n]] [.at r0 (.fl .f32 l0)]
    = (match decide (l0.length = a0_1n ∧ a0_1n < 2147483648) with | true => some (.g [.sl 1 0 0, .sl 2 0 a0_1n], [.at r0 (.fl .f32 l0), .at true (.fl .f32 ([] : List Nat)), .at true (.fl .f32 l0)]) | false => none) := by
  kernel_rfl

def tab_A_stlawstoSteps_3 : Fns := tabT [(69, g_toF)]
theorem tabok_A_stlawstoSteps_3 : ∀ f, FnT Try.prog f (tab_A_stlawstoSteps_3 f) := (tabT_cons (k := 69) ok_toF tabT_nil)
theorem run_A_stlawstoSteps_3 (N : Nat)  : run ty tab_A_stlawstoSteps_3 ann0 N Try.f17 [.g [.nil, .nil]] []
    = some (.g [.sl 0 0 0, .sl 1 0 0], [.at true (.fl .f32 ([] : List Nat)), .at true (.fl .f32 ([] : List Nat))]) := by
  kernel_rfl

def gA_stlawstoSteps : GT := fun vs h => match vs, h with
  | [.g [.sl 0 0 a0_0n, .sl 1 0 a0_1n]], [.at r0 (.fl .f32 l0), .at r1 (.fl .f32 l1)] => .ite (decide (l0.length = a0_0n ∧ a0_0n < 2147483648)) (.ite (decide (l1.length = a0_1n ∧ a0_1n < 2147483648)) (.ret (.g [.sl 2 0 a0_0n, .sl 3 0 a0_1n]) [.at r0 (.fl .f32 l0), .at r1 (.fl .f32 l1), .at true (.fl .f32 l0), .at true (.fl .f32 l1)]) (.no)) (.no)
  | [.g [.sl 0 0 a0_0n, .nil]], [.at r0 (.fl .f32 l0)] => .ite (decide (l0.length = a0_0n ∧ a0_0n < 2147483648)) (.ret (.g [.sl 1 0 a0_0n, .sl 2 0 0]) [.at r0 (.fl .f32 l0), .at true (.fl .f32 l0), .at true (.fl .f32 ([] : List Nat))]) (.no)
  | [.g [.nil, .sl 0 0 a0_1n]], [.at r0 (.fl .f32 l0)] => .ite (decide (l0.length = a0_1n ∧ a0_1n < 2147483648)) (.ret (.g [.sl 1 0 0, .sl 2 0 a0_1n]) [.at r0 (.fl .f32 l0), .at true (.fl .f32 ([] : List Nat)), .at true (.fl .f32 l0)]) (.no)
  | [.g [.nil, .nil]], [] => .ret (.g [.sl 0 0 0, .sl 1 0 0]) [.at true (.fl .f32 ([] : List Nat)), .at true (.fl .f32 ([] : List Nat))]
  | _, _ => .no
theorem okA_stlawstoSteps : FnT Try.prog 17 gA_stlawstoSteps := by
  intro vs hp v h' e
  unfold gA_stlawstoSteps at e
  split at e
  · exact FnT.runs tabok_A_stlawstoSteps_0 Try.func17 rfl rfl ann0 0 _ _ v h' (by rw [T.run_of]; exact Eq.trans (run_A_stlawstoSteps_0 0 _ _ _ _ _ _) e)
  · exact FnT.runs tabok_A_stlawstoSteps_1 Try.func17 rfl rfl ann0 0 _ _ v h' (by rw [T.run_of]; exact Eq.trans (run_A_stlawstoSteps_1 0 _ _ _) e)
  · exact FnT.runs tabok_A_stlawstoSteps_2 Try.func17 rfl rfl ann0 0 _ _ v h' (by rw [T.run_of]; exact Eq.trans (run_A_stlawstoSteps_2 0 _ _ _) e)
  · exact FnT.runs tabok_A_stlawstoSteps_3 Try.func17 rfl rfl ann0 0 _ _ v h' (by rw [T.run_of]; exact Eq.trans (run_A_stlawstoSteps_3 0 ) e)
  · exact (T.no_inv e).elim
def tab_A_stlawseqSteps_0 : Fns := tabT [(29, gEqT)]
theorem tabok_A_stlawseqSteps_0 : ∀ f, FnT Try.prog f (tab_A_stlawseqSteps_0 f) := (tabT_cons (k := 29) ok_eqF tabT_nil)
theorem run_A_stlawseqSteps_0 (N : Nat) (a0_0n : Nat) (a0_1n : Nat) (a1_0n : Nat) (a1_1n : Nat) (r0 : Bool) (l0 : List Nat) (r1 : Bool) (l1 : List Nat) (r2 : Bool) (l2 : List Nat) (r3 : Bool) (l3 : List Nat) : run ty tab_A_stlawseqSteps_0 ann0 N Try.f20 [.g [.sl 0 0 a0_0n, .sl 1 0 a0_1n], .g [.sl 2 0 a1_0n, .sl 3 0 a1_1n]] [.at r0 (.fl .f32 l0), .at r1 (.fl .f32 l1), .at r2 (.fl .f32 l2), .at r3 (.fl .f32 l3)]
    = (match decide (l0.length = a0_0n ∧ l2.length = a1_0n ∧ a0_0n < 2147483648 ∧ a1_0n < 2147483648) with | true => (match !(eqFB l0 l2) with | true => some (.bool false, [.at r0 (.fl .f32 l0), .at r1 (.fl .f32 l1), .at r2 (.fl .f32 l2), .at r3 (.fl .f32 l3)]) | false => (match decide (l1.length = a0_1n ∧ l3.length = a1_1n ∧ a0_1n < 2147483648 ∧ a1_1n < 2147483648) with | true => (match !(eqFB l1 l3) with | true => some (.bool false, [.at r0 (.fl .f32 l0), .at r1 (.fl .f32 l1), .at r2 (.fl .f32 l2), .at r3 (.fl .f32 l3)]) | false => some (.bool true, [.at r0 (.fl .f32 l0), .at r1 (.fl .f32 l1), .at r2 (.fl .f32 l2), .at r3 (.fl .f32 l3)])) | false => none)) | false => none) := by
  kernel_rfl

def gA_stlawseqSteps : GT := fun vs h => match vs, h with
  | [.g [.sl 0 0 a0_0n, .sl 1 0 a0_1n], .g [.sl 2 0 a1_0n, .sl 3 0 a1_1n]], [.at r0 (.fl .f32 l0), .at r1 (.fl .f32 l1), .at r2 (.fl .f32 l2), .at r3 (.fl .f32 l3)] => .ite (decide (l0.length = a0_0n ∧ l2.length = a1_0n ∧ a0_0n < 2147483648 ∧ a1_0n < 2147483648)) (.ite (!(eqFB l0 l2)) (.ret (.bool false) [.at r0 (.fl .f32 l0), .at r1 (.fl .f32 l1), .at r2 (.fl .f32 l2), .at r3 (.fl .f32 l3)]) (.ite (decide (l1.length = a0_1n ∧ l3.length = a1_1n ∧ a0_1n < 2147483648 ∧ a1_1n < 2147483648)) (.ite (!(eqFB l1 l3)) (.ret (.bool false) [.at r0 (.fl .f32 l0), .at r1 (.fl .f32 l1), .at r2 (.fl .f32 l2), .at r3 (.fl .f32 l3)]) (.ret (.bool true) [.at r0 (.fl .f32 l0), .at r1 (.fl .f32 l1), .at r2 (.fl .f32 l2), .at r3 (.fl .f32 l3)])) (.no))) (.no)
  | _, _ => .no
theorem okA_stlawseqSteps : FnT Try.prog 20 gA_stlawseqSteps := by
  intro vs hp v h' e
  unfold gA_stlawseqSteps at e
  split at e
  · exact FnT.runs tabok_A_stlawseqSteps_0 Try.func20 rfl rfl ann0 0 _ _ v h' (by rw [T.run_of]; exact Eq.trans (run_A_stlawseqSteps_0 0 _ _ _ _ _ _ _ _ _ _ _ _) e)
  · exact (T.no_inv e).elim
def tab_A_stlawsmarkSteps_0 : Fns := tabT [(30, gMarkT)]
theorem tabok_A_stlawsmarkSteps_0 : ∀ f, FnT Try.prog f (tab_A_stlawsmarkSteps_0 f) := (tabT_cons (k := 30) ok_markF tabT_nil)
theorem run_A_stlawsmarkSteps_0 (N : Nat) (a0_0n : Nat) (a0_1n : Nat) (a1 : Int) (l0 : List Nat) (l1 : List Nat) : run ty tab_A_stlawsmarkSteps_0 ann0 N Try.f21 [.g [.sl 0 0 a0_0n, .sl 1 0 a0_1n], .int .i64 a1] [.at true (.fl .f32 l0), .at true (.fl .f32 l1)]
    = (match decide (l0.length = a0_0n ∧ a0_0n < 2147483648 ∧ 0 ≤ (a1 : Int) ∧ (a1 : Int).toNat < 2147483648) with | true => (match decide (l1.length = a0_1n ∧ a0_1n < 2147483648 ∧ 0 ≤ (a1 + (a0_0n : Int) : Int) ∧ (a1 + (a0_0n : Int) : Int).toNat < 2147483648) with | true => some (.int .i64 ((a1 + (a0_0n : Int)) + (a0_1n : Int)), [.at true (.fl .f32 (marks a1 a0_0n)), .at true (.fl .f32 (marks (a1 + (a0_0n : Int)) a0_1n))]) | false => none) | false => none) := by
  kernel_rfl

def gA_stlawsmarkSteps : GT := fun vs h => match vs, h with
  | [.g [.sl 0 0 a0_0n, .sl 1 0 a0_1n], .int .i64 a1], [.at true (.fl .f32 l0), .at true (.fl .f32 l1)] => .ite (decide (l0.length = a0_0n ∧ a0_0n < 2147483648 ∧ 0 ≤ (a1 : Int) ∧ (a1 : Int).toNat < 2147483648)) (.ite (decide (l1.length = a0_1n ∧ a0_1n < 2147483648 ∧ 0 ≤ (a1 + (a0_0n : Int) : Int) ∧ (a1 + (a0_0n : Int) : Int).toNat < 2147483648)) (.ret (.int .i64 ((a1 + (a0_0n : Int)) + (a0_1n : Int))) [.at true (.fl .f32 (marks a1 a0_0n)), .at true (.fl .f32 (marks (a1 + (a0_0n : Int)) a0_1n))]) (.no)) (.no)
  | _, _ => .no
theorem okA_stlawsmarkSteps : FnT Try.prog 21 gA_stlawsmarkSteps := by
  intro vs hp v h' e
  unfold gA_stlawsmarkSteps at e
  split at e
  · exact FnT.runs tabok_A_stlawsmarkSteps_0 Try.func21 rfl rfl ann0 0 _ _ v h' (by rw [T.run_of]; exact Eq.trans (run_A_stlawsmarkSteps_0 0 _ _ _ _ _) e)
  · exact (T.no_inv e).elim
theorem sz_le {A B : Int} (h : decide ((IntKind.i64.wrap (A - B) : Int) < 0) = false) (h1 : 0 ≤ A) (h2 : A ≤ 1048576) (h3 : 0 ≤ B) (h4 : B ≤ 9223372036854775807) : B ≤ A ∧ IntKind.i64.wrap (A - B) = A - B := by
  have h := of_decide_eq_false h
  rw [wrap_z (by omega) (by omega)] at h ⊢
  exact ⟨by omega, rfl⟩
def an_lawWnA : Ann := ⟨fun r =>  none, fun r n => if r = 10 ∧ n = 2 then .grow else .quiet⟩
def tab_lawWnA : Fns := tabT [(15, gA_stlawsszSteps), (17, gA_stlawstoSteps), (16, gWn), (18, gWn), (19, gEqC), (20, gA_stlawseqSteps), (21, gA_stlawsmarkSteps), (22, gMarkC), (23, gHeldC)]
theorem tabok_lawWnA : ∀ f, FnT Try.prog f (tab_lawWnA f) := (tabT_cons (k := 15) okA_stlawsszSteps (tabT_cons (k := 17) okA_stlawstoSteps (tabT_cons (k := 16) ok_wnS (tabT_cons (k := 18) ok_wnI (tabT_cons (k := 19) ok_eqC (tabT_cons (k := 20) okA_stlawseqSteps (tabT_cons (k := 21) okA_stlawsmarkSteps (tabT_cons (k := 22) ok_maC (tabT_cons (k := 23) ok_heC tabT_nil)))))))))
theorem run_lawWnA (N : Nat) (n : Nat) (m : Nat) (e : Nat) (l0 : List Nat) (l1 : List Nat) : run ty tab_lawWnA an_lawWnA N Try.f3 [.g [.sl 0 0 n, .sl 1 0 m], .fl .f32 e] [.at false (.fl .f32 l0), .at false (.fl .f32 l1)]
    = (match decide ((IntKind.i64.wrap (1048576 - ((n : Nat) : Int)) : Int) < 0) with | true => some (.bool true, [.at false (.fl .f32 l0), .at false (.fl .f32 l1)]) | false => (match decide ((IntKind.i64.wrap (1048576 - ((n : Nat) : Int)) : Int) < 0) with | true => some (.bool true, [.at false (.fl .f32 l0), .at false (.fl .f32 l1)]) | false => (match decide ((IntKind.i64.wrap ((IntKind.i64.wrap (1048576 - ((n : Nat) : Int))) - ((m : Nat) : Int)) : Int) < 0) with | true => some (.bool true, [.at false (.fl .f32 l0), .at false (.fl .f32 l1)]) | false => (match decide ((IntKind.i64.wrap ((IntKind.i64.wrap (1048576 - ((n : Nat) : Int))) - ((m : Nat) : Int)) : Int) < 0) with | true => some (.bool true, [.at false (.fl .f32 l0), .at false (.fl .f32 l1)]) | false => (match decide ((IntKind.i64.wrap ((IntKind.i64.wrap (1048576 - ((n : Nat) : Int))) - ((m : Nat) : Int)) : Int) < 0) with | true => some (.bool true, [.at false (.fl .f32 l0), .at false (.fl .f32 l1)]) | false => (match decide (l0.length = n ∧ n < 2147483648) with | true => (match decide (l1.length = m ∧ m < 2147483648) with | true => (match decide (l0.length = n ∧ n < 2147483648 ∧ l1.length = m ∧ m < 2147483648) with | true => (match wnOk l0 l1 e with | true => (match decide (l0.length = n ∧ n < 2147483648) with | true => (match decide (l1.length = m ∧ m < 2147483648) with | true => (match decide (l0.length = n ∧ n < 2147483648 ∧ l1.length = m ∧ m < 2147483648) with | true => (match wnOk l0 l1 e with | true => (match decide ((wvL e l1).length = (wvL e l1).length ∧ (wvL e l1).length = (wvL e l1).length ∧ (wvL e l1).length < 2147483648 ∧ (wvL e l1).length < 2147483648) with | true => (match !(eqCB (wvL e l1) (wvL e l1)) with | true => some (.bool false, [.at false (.fl .f32 l0), .at false (.fl .f32 l1)]) | false => (match decide (l0.length = n ∧ n < 2147483648) with | true => (match decide (l1.length = m ∧ m < 2147483648) with | true => (match decide (l0.length = n ∧ l0.length = n ∧ n < 2147483648 ∧ n < 2147483648) with | true => (match !(eqFB l0 l0) with | true => some (.bool false, [.at false (.fl .f32 l0), .at false (.fl .f32 l1)]) | false => (match decide (l1.length = m ∧ l1.length = m ∧ m < 2147483648 ∧ m < 2147483648) with | true => (match !(eqFB l1 l1) with | true => some (.bool false, [.at false (.fl .f32 l0), .at false (.fl .f32 l1)]) | false => (match decide (l0.length = n ∧ n < 2147483648 ∧ 0 ≤ (1 : Int) ∧ (1 : Int).toNat < 2147483648) with | true => (match decide (l1.length = m ∧ m < 2147483648 ∧ 0 ≤ (1 + (n : Int) : Int) ∧ (1 + (n : Int) : Int).toNat < 2147483648) with | true => (match decide (((1 + (n : Int)) + (m : Int) : Int) < 0) with | true => some (.bool false, [.at false (.fl .f32 l0), .at false (.fl .f32 l1)]) | false => (match decide ((wvL e l1).length = (wvL e l1).length ∧ (wvL e l1).length = (wvL e l1).length ∧ (wvL e l1).length < 2147483648 ∧ (wvL e l1).length < 2147483648) with | true => (match !(eqCB (wvL e l1) (wvL e l1)) with | true => some (.bool false, [.at false (.fl .f32 l0), .at false (.fl .f32 l1)]) | false => (match decide ((wvL e l1).length = (wvL e l1).length ∧ (wvL e l1).length < 2147483648 ∧ 0 ≤ (1 : Int) ∧ (1 : Int).toNat < 2147483648) with | true => (match decide (marksC 1 ((wvL e l1).length) = marksC 1 ((wvL e l1).length) ∧ (wvL e l1).length < 2147483648 ∧ 0 ≤ (1 : Int) ∧ (1 : Int).toNat < 2147483648) with | true => (match decide ((1 + ((wvL e l1).length : Int) : Int) < 0) with | true => some (.bool false, [.at false (.fl .f32 l0), .at false (.fl .f32 l1)]) | false => (match (1 + ((wvL e l1).length : Int)) != (1 + ((wvL e l1).length : Int)) with | true => some (.bool false, [.at false (.fl .f32 l0), .at false (.fl .f32 l1)]) | false => (match decide (l0.length = n ∧ n < 2147483648) with | true => (match decide (l1.length = m ∧ m < 2147483648) with | true => (match decide (l0.length = n ∧ n < 2147483648 ∧ l1.length = m ∧ m < 2147483648) with | true => (match wnOk l0 l1 e with | true => (match decide ((wvL e l1).length = (wvL e l1).length ∧ (wvL e l1).length = (wvL e l1).length ∧ (wvL e l1).length < 2147483648 ∧ (wvL e l1).length < 2147483648) with | true => (match !(eqCB (wvL e l1) (wvL e l1)) with | true => some (.bool false, [.at false (.fl .f32 l0), .at false (.fl .f32 l1)]) | false => (match decide (marksC 1 ((wvL e l1).length) = marksC 1 ((wvL e l1).length) ∧ (wvL e l1).length < 2147483648 ∧ 0 ≤ (1 : Int) ∧ (1 : Int).toNat < 2147483648) with | true => (match decide ((1 + ((wvL e l1).length : Int) : Int) < 0) with | true => some (.bool false, [.at false (.fl .f32 l0), .at false (.fl .f32 l1)]) | false => (match (1 + ((wvL e l1).length : Int)) != (1 + ((wvL e l1).length : Int)) with | true => some (.bool false, [.at false (.fl .f32 l0), .at false (.fl .f32 l1)]) | false => some (.bool true, [.at false (.fl .f32 l0), .at false (.fl .f32 l1)]))) | false => none)) | false => none) | false => none) | false => none) | false => none) | false => none))) | false => none) | false => none)) | false => none)) | false => none) | false => none)) | false => none)) | false => none) | false => none) | false => none)) | false => none) | false => none) | false => none) | false => none) | false => none) | false => (match decide (l0.length = n ∧ n < 2147483648) with | true => (match decide (l1.length = m ∧ m < 2147483648) with | true => (match decide (l0.length = n ∧ n < 2147483648 ∧ l1.length = m ∧ m < 2147483648) with | true => (match wnOk l0 l1 e with | true => none | false => (match decide (l0.length = n ∧ n < 2147483648) with | true => (match decide (l1.length = m ∧ m < 2147483648) with | true => (match decide (l0.length = n ∧ l0.length = n ∧ n < 2147483648 ∧ n < 2147483648) with | true => (match !(eqFB l0 l0) with | true => some (.bool false, [.at false (.fl .f32 l0), .at false (.fl .f32 l1)]) | false => (match decide (l1.length = m ∧ l1.length = m ∧ m < 2147483648 ∧ m < 2147483648) with | true => (match !(eqFB l1 l1) with | true => some (.bool false, [.at false (.fl .f32 l0), .at false (.fl .f32 l1)]) | false => (match decide (l0.length = n ∧ n < 2147483648 ∧ 0 ≤ (1 : Int) ∧ (1 : Int).toNat < 2147483648) with | true => (match decide (l1.length = m ∧ m < 2147483648 ∧ 0 ≤ (1 + (n : Int) : Int) ∧ (1 + (n : Int) : Int).toNat < 2147483648) with | true => (match decide (((1 + (n : Int)) + (m : Int) : Int) < 0) with | true => some (.bool false, [.at false (.fl .f32 l0), .at false (.fl .f32 l1)]) | false => (match decide (l0.length = n ∧ n < 2147483648) with | true => (match decide (l1.length = m ∧ m < 2147483648) with | true => (match decide (l0.length = n ∧ n < 2147483648 ∧ l1.length = m ∧ m < 2147483648) with | true => (match wnOk l0 l1 e with | true => none | false => some (.bool true, [.at false (.fl .f32 l0), .at false (.fl .f32 l1)])) | false => none) | false => none) | false => none)) | false => none) | false => none)) | false => none)) | false => none) | false => none) | false => none)) | false => none) | false => none) | false => none)) | false => none) | false => none) | false => none)))))) := by
  kernel_rfl

theorem H_lawWnA (n : Nat) (m : Nat) (e : Nat) (l0 : List Nat) (l1 : List Nat) (hn : l0.length = n) (bhn : n ≤ 9223372036854775807) (hm : l1.length = m) (bhm : m ≤ 9223372036854775807) : run ty tab_lawWnA an_lawWnA 0 Try.f3 [.g [.sl 0 0 n, .sl 1 0 m], .fl .f32 e] [.at false (.fl .f32 l0), .at false (.fl .f32 l1)] = some (.bool true, [.at false (.fl .f32 l0), .at false (.fl .f32 l1)]) := by
  refine Eq.trans (run_lawWnA 0 n m e l0 l1) ?_
  cases hc1 : decide ((IntKind.i64.wrap (1048576 - ((n : Nat) : Int)) : Int) < 0)
  case false =>
    have fhc1 := of_decide_eq_false hc1
    have ghc1 := sz_le hc1 (by omega) (by omega) (by omega) (by omega)
    cases hc2 : decide ((IntKind.i64.wrap ((IntKind.i64.wrap (1048576 - ((n : Nat) : Int))) - ((m : Nat) : Int)) : Int) < 0)
    case false =>
      have fhc2 := of_decide_eq_false hc2
      have ghc2 := sz_le hc2 (by omega) (by omega) (by omega) (by omega)
      have hc3 : (decide (l0.length = n ∧ n < 2147483648)) = true := decide_eq_true (by first | omega | (simp [marks, marksC] <;> omega))
      have hc4 : (decide (l1.length = m ∧ m < 2147483648)) = true := decide_eq_true (by first | omega | (simp [marks, marksC] <;> omega))
      have hc5 : (decide (l0.length = n ∧ n < 2147483648 ∧ l1.length = m ∧ m < 2147483648)) = true := decide_eq_true (by first | omega | (simp [marks, marksC] <;> omega))
      rw [hc3, hc4, hc5]
      cases hc6 : wnOk l0 l1 e
      case false =>
        have hc7 : (decide (l0.length = n ∧ l0.length = n ∧ n < 2147483648 ∧ n < 2147483648)) = true := decide_eq_true (by first | omega | (simp [marks, marksC] <;> omega))
        have hc8 : (!(eqFB l0 l0)) = false := by rw [eqFB_self]; rfl
        have hc9 : (decide (l1.length = m ∧ l1.length = m ∧ m < 2147483648 ∧ m < 2147483648)) = true := decide_eq_true (by first | omega | (simp [marks, marksC] <;> omega))
        have hc10 : (!(eqFB l1 l1)) = false := by rw [eqFB_self]; rfl
        have hc11 : (decide (l0.length = n ∧ n < 2147483648 ∧ 0 ≤ (1 : Int) ∧ (1 : Int).toNat < 2147483648)) = true := decide_eq_true (by first | omega | (simp [marks, marksC] <;> omega))
        have hc12 : (decide (l1.length = m ∧ m < 2147483648 ∧ 0 ≤ (1 + (n : Int) : Int) ∧ (1 + (n : Int) : Int).toNat < 2147483648)) = true := decide_eq_true (by first | omega | (simp [marks, marksC] <;> omega))
        have hc13 : (decide (((1 + (n : Int)) + (m : Int) : Int) < 0)) = false := decide_eq_false (by first | omega | (simp [marks, marksC] <;> omega))
        rw [hc7, hc8, hc9, hc10, hc11, hc12, hc13]
      case true =>
        have ghc6 := wn_len hc6
        have hc14 : (decide ((wvL e l1).length = (wvL e l1).length ∧ (wvL e l1).length = (wvL e l1).length ∧ (wvL e l1).length < 2147483648 ∧ (wvL e l1).length < 2147483648)) = true := decide_eq_true (by first | omega | (simp [marks, marksC] <;> omega))
        have hc15 : (!(eqCB (wvL e l1) (wvL e l1))) = false := by rw [eqCB_self]; rfl
        have hc16 : (decide (l0.length = n ∧ l0.length = n ∧ n < 2147483648 ∧ n < 2147483648)) = true := decide_eq_true (by first | omega | (simp [marks, marksC] <;> omega))
        have hc17 : (!(eqFB l0 l0)) = false := by rw [eqFB_self]; rfl
        have hc18 : (decide (l1.length = m ∧ l1.length = m ∧ m < 2147483648 ∧ m < 2147483648)) = true := decide_eq_true (by first | omega | (simp [marks, marksC] <;> omega))
        have hc19 : (!(eqFB l1 l1)) = false := by rw [eqFB_self]; rfl
        have hc20 : (decide (l0.length = n ∧ n < 2147483648 ∧ 0 ≤ (1 : Int) ∧ (1 : Int).toNat < 2147483648)) = true := decide_eq_true (by first | omega | (simp [marks, marksC] <;> omega))
        have hc21 : (decide (l1.length = m ∧ m < 2147483648 ∧ 0 ≤ (1 + (n : Int) : Int) ∧ (1 + (n : Int) : Int).toNat < 2147483648)) = true := decide_eq_true (by first | omega | (simp [marks, marksC] <;> omega))
        have hc22 : (decide (((1 + (n : Int)) + (m : Int) : Int) < 0)) = false := decide_eq_false (by first | omega | (simp [marks, marksC] <;> omega))
        have hc23 : (decide ((wvL e l1).length = (wvL e l1).length ∧ (wvL e l1).length < 2147483648 ∧ 0 ≤ (1 : Int) ∧ (1 : Int).toNat < 2147483648)) = true := decide_eq_true (by first | omega | (simp [marks, marksC] <;> omega))
        have hc24 : (decide (marksC 1 ((wvL e l1).length) = marksC 1 ((wvL e l1).length) ∧ (wvL e l1).length < 2147483648 ∧ 0 ≤ (1 : Int) ∧ (1 : Int).toNat < 2147483648)) = true := decide_eq_true (by first | omega | (simp [marks, marksC] <;> omega))
        have hc25 : (decide ((1 + ((wvL e l1).length : Int) : Int) < 0)) = false := decide_eq_false (by first | omega | (simp [marks, marksC] <;> omega))
        have hc26 : ((1 + ((wvL e l1).length : Int)) != (1 + ((wvL e l1).length : Int))) = false := by first | rfl | simp [marks, marksC]
        rw [hc14, hc15, hc16, hc17, hc18, hc19, hc20, hc21, hc22, hc23, hc24, hc25, hc26]
    case true =>
      have fhc2 := of_decide_eq_true hc2
      rfl
  case true =>
    have fhc1 := of_decide_eq_true hc1
    rfl
def an_lawWnB : Ann := ⟨fun r =>  none, fun r n => if r = 10 ∧ n = 2 then .grow else .quiet⟩
def tab_lawWnB : Fns := tabT [(15, gA_stlawsszSteps), (17, gA_stlawstoSteps), (16, gWn), (18, gWn), (19, gEqC), (20, gA_stlawseqSteps), (21, gA_stlawsmarkSteps), (22, gMarkC), (23, gHeldC)]
theorem tabok_lawWnB : ∀ f, FnT Try.prog f (tab_lawWnB f) := (tabT_cons (k := 15) okA_stlawsszSteps (tabT_cons (k := 17) okA_stlawstoSteps (tabT_cons (k := 16) ok_wnS (tabT_cons (k := 18) ok_wnI (tabT_cons (k := 19) ok_eqC (tabT_cons (k := 20) okA_stlawseqSteps (tabT_cons (k := 21) okA_stlawsmarkSteps (tabT_cons (k := 22) ok_maC (tabT_cons (k := 23) ok_heC tabT_nil)))))))))
theorem run_lawWnB (N : Nat) (n : Nat) (e : Nat) (l0 : List Nat) : run ty tab_lawWnB an_lawWnB N Try.f3 [.g [.sl 0 0 n, .nil], .fl .f32 e] [.at false (.fl .f32 l0)]
    = (match decide ((IntKind.i64.wrap (1048576 - ((n : Nat) : Int)) : Int) < 0) with | true => some (.bool true, [.at false (.fl .f32 l0)]) | false => (match decide ((IntKind.i64.wrap (1048576 - ((n : Nat) : Int)) : Int) < 0) with | true => some (.bool true, [.at false (.fl .f32 l0)]) | false => (match decide ((IntKind.i64.wrap ((IntKind.i64.wrap (1048576 - ((n : Nat) : Int))) - 0) : Int) < 0) with | true => some (.bool true, [.at false (.fl .f32 l0)]) | false => (match decide ((IntKind.i64.wrap ((IntKind.i64.wrap (1048576 - ((n : Nat) : Int))) - 0) : Int) < 0) with | true => some (.bool true, [.at false (.fl .f32 l0)]) | false => (match decide ((IntKind.i64.wrap ((IntKind.i64.wrap (1048576 - ((n : Nat) : Int))) - 0) : Int) < 0) with | true => some (.bool true, [.at false (.fl .f32 l0)]) | false => (match decide (l0.length = n ∧ n < 2147483648) with | true => (match decide (l0.length = n ∧ n < 2147483648 ∧ ([] : List Nat).length = 0 ∧ 0 < 2147483648) with | true => (match wnOk l0 ([] : List Nat) e with | true => (match decide (l0.length = n ∧ n < 2147483648) with | true => (match decide (l0.length = n ∧ n < 2147483648 ∧ ([] : List Nat).length = 0 ∧ 0 < 2147483648) with | true => (match wnOk l0 ([] : List Nat) e with | true => (match decide ((wvL e ([] : List Nat)).length = (wvL e ([] : List Nat)).length ∧ (wvL e ([] : List Nat)).length = (wvL e ([] : List Nat)).length ∧ (wvL e ([] : List Nat)).length < 2147483648 ∧ (wvL e ([] : List Nat)).length < 2147483648) with | true => (match !(eqCB (wvL e ([] : List Nat)) (wvL e ([] : List Nat))) with | true => some (.bool false, [.at false (.fl .f32 l0)]) | false => (match decide (l0.length = n ∧ n < 2147483648) with | true => (match decide (l0.length = n ∧ l0.length = n ∧ n < 2147483648 ∧ n < 2147483648) with | true => (match !(eqFB l0 l0) with | true => some (.bool false, [.at false (.fl .f32 l0)]) | false => (match decide (([] : List Nat).length = 0 ∧ ([] : List Nat).length = 0 ∧ 0 < 2147483648 ∧ 0 < 2147483648) with | true => (match !(eqFB ([] : List Nat) ([] : List Nat)) with | true => some (.bool false, [.at false (.fl .f32 l0)]) | false => (match decide (l0.length = n ∧ n < 2147483648 ∧ 0 ≤ (1 : Int) ∧ (1 : Int).toNat < 2147483648) with | true => (match decide (([] : List Nat).length = 0 ∧ 0 < 2147483648 ∧ 0 ≤ (1 + (n : Int) : Int) ∧ (1 + (n : Int) : Int).toNat < 2147483648) with | true => (match decide (((1 + (n : Int)) + (0 : Int) : Int) < 0) with | true => some (.bool false, [.at false (.fl .f32 l0)]) | false => (match decide ((wvL e ([] : List Nat)).length = (wvL e ([] : List Nat)).length ∧ (wvL e ([] : List Nat)).length = (wvL e ([] : List Nat)).length ∧ (wvL e ([] : List Nat)).length < 2147483648 ∧ (wvL e ([] : List Nat)).length < 2147483648) with | true => (match !(eqCB (wvL e ([] : List Nat)) (wvL e ([] : List Nat))) with | true => some (.bool false, [.at false (.fl .f32 l0)]) | false => (match decide ((wvL e ([] : List Nat)).length = (wvL e ([] : List Nat)).length ∧ (wvL e ([] : List Nat)).length < 2147483648 ∧ 0 ≤ (1 : Int) ∧ (1 : Int).toNat < 2147483648) with | true => (match decide (marksC 1 ((wvL e ([] : List Nat)).length) = marksC 1 ((wvL e ([] : List Nat)).length) ∧ (wvL e ([] : List Nat)).length < 2147483648 ∧ 0 ≤ (1 : Int) ∧ (1 : Int).toNat < 2147483648) with | true => (match decide ((1 + ((wvL e ([] : List Nat)).length : Int) : Int) < 0) with | true => some (.bool false, [.at false (.fl .f32 l0)]) | false => (match (1 + ((wvL e ([] : List Nat)).length : Int)) != (1 + ((wvL e ([] : List Nat)).length : Int)) with | true => some (.bool false, [.at false (.fl .f32 l0)]) | false => (match decide (l0.length = n ∧ n < 2147483648) with | true => (match decide (l0.length = n ∧ n < 2147483648 ∧ ([] : List Nat).length = 0 ∧ 0 < 2147483648) with | true => (match wnOk l0 ([] : List Nat) e with | true => (match decide ((wvL e ([] : List Nat)).length = (wvL e ([] : List Nat)).length ∧ (wvL e ([] : List Nat)).length = (wvL e ([] : List Nat)).length ∧ (wvL e ([] : List Nat)).length < 2147483648 ∧ (wvL e ([] : List Nat)).length < 2147483648) with | true => (match !(eqCB (wvL e ([] : List Nat)) (wvL e ([] : List Nat))) with | true => some (.bool false, [.at false (.fl .f32 l0)]) | false => (match decide (marksC 1 ((wvL e ([] : List Nat)).length) = marksC 1 ((wvL e ([] : List Nat)).length) ∧ (wvL e ([] : List Nat)).length < 2147483648 ∧ 0 ≤ (1 : Int) ∧ (1 : Int).toNat < 2147483648) with | true => (match decide ((1 + ((wvL e ([] : List Nat)).length : Int) : Int) < 0) with | true => some (.bool false, [.at false (.fl .f32 l0)]) | false => (match (1 + ((wvL e ([] : List Nat)).length : Int)) != (1 + ((wvL e ([] : List Nat)).length : Int)) with | true => some (.bool false, [.at false (.fl .f32 l0)]) | false => some (.bool true, [.at false (.fl .f32 l0)]))) | false => none)) | false => none) | false => none) | false => none) | false => none))) | false => none) | false => none)) | false => none)) | false => none) | false => none)) | false => none)) | false => none) | false => none)) | false => none) | false => none) | false => none) | false => none) | false => (match decide (l0.length = n ∧ n < 2147483648) with | true => (match decide (l0.length = n ∧ n < 2147483648 ∧ ([] : List Nat).length = 0 ∧ 0 < 2147483648) with | true => (match wnOk l0 ([] : List Nat) e with | true => none | false => (match decide (l0.length = n ∧ n < 2147483648) with | true => (match decide (l0.length = n ∧ l0.length = n ∧ n < 2147483648 ∧ n < 2147483648) with | true => (match !(eqFB l0 l0) with | true => some (.bool false, [.at false (.fl .f32 l0)]) | false => (match decide (([] : List Nat).length = 0 ∧ ([] : List Nat).length = 0 ∧ 0 < 2147483648 ∧ 0 < 2147483648) with | true => (match !(eqFB ([] : List Nat) ([] : List Nat)) with | true => some (.bool false, [.at false (.fl .f32 l0)]) | false => (match decide (l0.length = n ∧ n < 2147483648 ∧ 0 ≤ (1 : Int) ∧ (1 : Int).toNat < 2147483648) with | true => (match decide (([] : List Nat).length = 0 ∧ 0 < 2147483648 ∧ 0 ≤ (1 + (n : Int) : Int) ∧ (1 + (n : Int) : Int).toNat < 2147483648) with | true => (match decide (((1 + (n : Int)) + (0 : Int) : Int) < 0) with | true => some (.bool false, [.at false (.fl .f32 l0)]) | false => (match decide (l0.length = n ∧ n < 2147483648) with | true => (match decide (l0.length = n ∧ n < 2147483648 ∧ ([] : List Nat).length = 0 ∧ 0 < 2147483648) with | true => (match wnOk l0 ([] : List Nat) e with | true => none | false => some (.bool true, [.at false (.fl .f32 l0)])) | false => none) | false => none)) | false => none) | false => none)) | false => none)) | false => none) | false => none)) | false => none) | false => none)) | false => none) | false => none)))))) := by
  kernel_rfl

theorem H_lawWnB (n : Nat) (e : Nat) (l0 : List Nat) (hn : l0.length = n) (bhn : n ≤ 9223372036854775807) : run ty tab_lawWnB an_lawWnB 0 Try.f3 [.g [.sl 0 0 n, .nil], .fl .f32 e] [.at false (.fl .f32 l0)] = some (.bool true, [.at false (.fl .f32 l0)]) := by
  refine Eq.trans (run_lawWnB 0 n e l0) ?_
  cases hc1 : decide ((IntKind.i64.wrap (1048576 - ((n : Nat) : Int)) : Int) < 0)
  case false =>
    have fhc1 := of_decide_eq_false hc1
    have ghc1 := sz_le hc1 (by omega) (by omega) (by omega) (by omega)
    cases hc2 : decide ((IntKind.i64.wrap ((IntKind.i64.wrap (1048576 - ((n : Nat) : Int))) - 0) : Int) < 0)
    case false =>
      have fhc2 := of_decide_eq_false hc2
      have ghc2 := sz_le hc2 (by omega) (by omega) (by omega) (by omega)
      have hc3 : (decide (l0.length = n ∧ n < 2147483648)) = true := decide_eq_true (by first | omega | (simp [marks, marksC] <;> omega))
      have hc4 : (decide (l0.length = n ∧ n < 2147483648 ∧ ([] : List Nat).length = 0 ∧ 0 < 2147483648)) = true := decide_eq_true (by first | omega | (simp [marks, marksC] <;> omega))
      rw [hc3, hc4]
      cases hc5 : wnOk l0 ([] : List Nat) e
      case false =>
        have hc6 : (decide (l0.length = n ∧ l0.length = n ∧ n < 2147483648 ∧ n < 2147483648)) = true := decide_eq_true (by first | omega | (simp [marks, marksC] <;> omega))
        have hc7 : (!(eqFB l0 l0)) = false := by rw [eqFB_self]; rfl
        have hc8 : (decide (([] : List Nat).length = 0 ∧ ([] : List Nat).length = 0 ∧ 0 < 2147483648 ∧ 0 < 2147483648)) = true := decide_eq_true (by first | omega | (simp [marks, marksC] <;> omega))
        have hc9 : (!(eqFB ([] : List Nat) ([] : List Nat))) = false := by rw [eqFB_self]; rfl
        have hc10 : (decide (l0.length = n ∧ n < 2147483648 ∧ 0 ≤ (1 : Int) ∧ (1 : Int).toNat < 2147483648)) = true := decide_eq_true (by first | omega | (simp [marks, marksC] <;> omega))
        have hc11 : (decide (([] : List Nat).length = 0 ∧ 0 < 2147483648 ∧ 0 ≤ (1 + (n : Int) : Int) ∧ (1 + (n : Int) : Int).toNat < 2147483648)) = true := decide_eq_true (by first | omega | (simp [marks, marksC] <;> omega))
        have hc12 : (decide (((1 + (n : Int)) + (0 : Int) : Int) < 0)) = false := decide_eq_false (by first | omega | (simp [marks, marksC] <;> omega))
        rw [hc6, hc7, hc8, hc9, hc10, hc11, hc12]
      case true =>
        have ghc5 := wn_len hc5
        have hc13 : (decide ((wvL e ([] : List Nat)).length = (wvL e ([] : List Nat)).length ∧ (wvL e ([] : List Nat)).length = (wvL e ([] : List Nat)).length ∧ (wvL e ([] : List Nat)).length < 2147483648 ∧ (wvL e ([] : List Nat)).length < 2147483648)) = true := decide_eq_true (by first | omega | (simp [marks, marksC] <;> omega))
        have hc14 : (!(eqCB (wvL e ([] : List Nat)) (wvL e ([] : List Nat)))) = false := by rw [eqCB_self]; rfl
        have hc15 : (decide (l0.length = n ∧ l0.length = n ∧ n < 2147483648 ∧ n < 2147483648)) = true := decide_eq_true (by first | omega | (simp [marks, marksC] <;> omega))
        have hc16 : (!(eqFB l0 l0)) = false := by rw [eqFB_self]; rfl
        have hc17 : (decide (([] : List Nat).length = 0 ∧ ([] : List Nat).length = 0 ∧ 0 < 2147483648 ∧ 0 < 2147483648)) = true := decide_eq_true (by first | omega | (simp [marks, marksC] <;> omega))
        have hc18 : (!(eqFB ([] : List Nat) ([] : List Nat))) = false := by rw [eqFB_self]; rfl
        have hc19 : (decide (l0.length = n ∧ n < 2147483648 ∧ 0 ≤ (1 : Int) ∧ (1 : Int).toNat < 2147483648)) = true := decide_eq_true (by first | omega | (simp [marks, marksC] <;> omega))
        have hc20 : (decide (([] : List Nat).length = 0 ∧ 0 < 2147483648 ∧ 0 ≤ (1 + (n : Int) : Int) ∧ (1 + (n : Int) : Int).toNat < 2147483648)) = true := decide_eq_true (by first | omega | (simp [marks, marksC] <;> omega))
        have hc21 : (decide (((1 + (n : Int)) + (0 : Int) : Int) < 0)) = false := decide_eq_false (by first | omega | (simp [marks, marksC] <;> omega))
        have hc22 : (decide ((wvL e ([] : List Nat)).length = (wvL e ([] : List Nat)).length ∧ (wvL e ([] : List Nat)).length < 2147483648 ∧ 0 ≤ (1 : Int) ∧ (1 : Int).toNat < 2147483648)) = true := decide_eq_true (by first | omega | (simp [marks, marksC] <;> omega))
        have hc23 : (decide (marksC 1 ((wvL e ([] : List Nat)).length) = marksC 1 ((wvL e ([] : List Nat)).length) ∧ (wvL e ([] : List Nat)).length < 2147483648 ∧ 0 ≤ (1 : Int) ∧ (1 : Int).toNat < 2147483648)) = true := decide_eq_true (by first | omega | (simp [marks, marksC] <;> omega))
        have hc24 : (decide ((1 + ((wvL e ([] : List Nat)).length : Int) : Int) < 0)) = false := decide_eq_false (by first | omega | (simp [marks, marksC] <;> omega))
        have hc25 : ((1 + ((wvL e ([] : List Nat)).length : Int)) != (1 + ((wvL e ([] : List Nat)).length : Int))) = false := by first | rfl | simp [marks, marksC]
        rw [hc13, hc14, hc15, hc16, hc17, hc18, hc19, hc20, hc21, hc22, hc23, hc24, hc25]
    case true =>
      have fhc2 := of_decide_eq_true hc2
      rfl
  case true =>
    have fhc1 := of_decide_eq_true hc1
    rfl
def an_lawWnC : Ann := ⟨fun r =>  none, fun r n => if r = 10 ∧ n = 2 then .grow else .quiet⟩
def tab_lawWnC : Fns := tabT [(15, gA_stlawsszSteps), (17, gA_stlawstoSteps), (16, gWn), (18, gWn), (19, gEqC), (20, gA_stlawseqSteps), (21, gA_stlawsmarkSteps), (22, gMarkC), (23, gHeldC)]
theorem tabok_lawWnC : ∀ f, FnT Try.prog f (tab_lawWnC f) := (tabT_cons (k := 15) okA_stlawsszSteps (tabT_cons (k := 17) okA_stlawstoSteps (tabT_cons (k := 16) ok_wnS (tabT_cons (k := 18) ok_wnI (tabT_cons (k := 19) ok_eqC (tabT_cons (k := 20) okA_stlawseqSteps (tabT_cons (k := 21) okA_stlawsmarkSteps (tabT_cons (k := 22) ok_maC (tabT_cons (k := 23) ok_heC tabT_nil)))))))))
theorem run_lawWnC (N : Nat) (m : Nat) (e : Nat) (l1 : List Nat) : run ty tab_lawWnC an_lawWnC N Try.f3 [.g [.nil, .sl 0 0 m], .fl .f32 e] [.at false (.fl .f32 l1)]
    = (match decide ((IntKind.i64.wrap (1048576 - ((m : Nat) : Int)) : Int) < 0) with | true => some (.bool true, [.at false (.fl .f32 l1)]) | false => (match decide ((IntKind.i64.wrap (1048576 - ((m : Nat) : Int)) : Int) < 0) with | true => some (.bool true, [.at false (.fl .f32 l1)]) | false => (match decide ((IntKind.i64.wrap (1048576 - ((m : Nat) : Int)) : Int) < 0) with | true => some (.bool true, [.at false (.fl .f32 l1)]) | false => (match decide (l1.length = m ∧ m < 2147483648) with | true => (match decide (([] : List Nat).length = 0 ∧ 0 < 2147483648 ∧ l1.length = m ∧ m < 2147483648) with | true => (match wnOk ([] : List Nat) l1 e with | true => (match decide (l1.length = m ∧ m < 2147483648) with | true => (match decide (([] : List Nat).length = 0 ∧ 0 < 2147483648 ∧ l1.length = m ∧ m < 2147483648) with | true => (match wnOk ([] : List Nat) l1 e with | true => (match decide ((wvL e l1).length = (wvL e l1).length ∧ (wvL e l1).length = (wvL e l1).length ∧ (wvL e l1).length < 2147483648 ∧ (wvL e l1).length < 2147483648) with | true => (match !(eqCB (wvL e l1) (wvL e l1)) with | true => some (.bool false, [.at false (.fl .f32 l1)]) | false => (match decide (l1.length = m ∧ m < 2147483648) with | true => (match decide (([] : List Nat).length = 0 ∧ ([] : List Nat).length = 0 ∧ 0 < 2147483648 ∧ 0 < 2147483648) with | true => (match !(eqFB ([] : List Nat) ([] : List Nat)) with | true => some (.bool false, [.at false (.fl .f32 l1)]) | false => (match decide (l1.length = m ∧ l1.length = m ∧ m < 2147483648 ∧ m < 2147483648) with | true => (match !(eqFB l1 l1) with | true => some (.bool false, [.at false (.fl .f32 l1)]) | false => (match decide (([] : List Nat).length = 0 ∧ 0 < 2147483648 ∧ 0 ≤ (1 : Int) ∧ (1 : Int).toNat < 2147483648) with | true => (match decide (l1.length = m ∧ m < 2147483648 ∧ 0 ≤ (1 + (0 : Int) : Int) ∧ (1 + (0 : Int) : Int).toNat < 2147483648) with | true => (match decide (((1 + (0 : Int)) + (m : Int) : Int) < 0) with | true => some (.bool false, [.at false (.fl .f32 l1)]) | false => (match decide ((wvL e l1).length = (wvL e l1).length ∧ (wvL e l1).length = (wvL e l1).length ∧ (wvL e l1).length < 2147483648 ∧ (wvL e l1).length < 2147483648) with | true => (match !(eqCB (wvL e l1) (wvL e l1)) with | true => some (.bool false, [.at false (.fl .f32 l1)]) | false => (match decide ((wvL e l1).length = (wvL e l1).length ∧ (wvL e l1).length < 2147483648 ∧ 0 ≤ (1 : Int) ∧ (1 : Int).toNat < 2147483648) with | true => (match decide (marksC 1 ((wvL e l1).length) = marksC 1 ((wvL e l1).length) ∧ (wvL e l1).length < 2147483648 ∧ 0 ≤ (1 : Int) ∧ (1 : Int).toNat < 2147483648) with | true => (match decide ((1 + ((wvL e l1).length : Int) : Int) < 0) with | true => some (.bool false, [.at false (.fl .f32 l1)]) | false => (match (1 + ((wvL e l1).length : Int)) != (1 + ((wvL e l1).length : Int)) with | true => some (.bool false, [.at false (.fl .f32 l1)]) | false => (match decide (l1.length = m ∧ m < 2147483648) with | true => (match decide (([] : List Nat).length = 0 ∧ 0 < 2147483648 ∧ l1.length = m ∧ m < 2147483648) with | true => (match wnOk ([] : List Nat) l1 e with | true => (match decide ((wvL e l1).length = (wvL e l1).length ∧ (wvL e l1).length = (wvL e l1).length ∧ (wvL e l1).length < 2147483648 ∧ (wvL e l1).length < 2147483648) with | true => (match !(eqCB (wvL e l1) (wvL e l1)) with | true => some (.bool false, [.at false (.fl .f32 l1)]) | false => (match decide (marksC 1 ((wvL e l1).length) = marksC 1 ((wvL e l1).length) ∧ (wvL e l1).length < 2147483648 ∧ 0 ≤ (1 : Int) ∧ (1 : Int).toNat < 2147483648) with | true => (match decide ((1 + ((wvL e l1).length : Int) : Int) < 0) with | true => some (.bool false, [.at false (.fl .f32 l1)]) | false => (match (1 + ((wvL e l1).length : Int)) != (1 + ((wvL e l1).length : Int)) with | true => some (.bool false, [.at false (.fl .f32 l1)]) | false => some (.bool true, [.at false (.fl .f32 l1)]))) | false => none)) | false => none) | false => none) | false => none) | false => none))) | false => none) | false => none)) | false => none)) | false => none) | false => none)) | false => none)) | false => none) | false => none)) | false => none) | false => none) | false => none) | false => none) | false => (match decide (l1.length = m ∧ m < 2147483648) with | true => (match decide (([] : List Nat).length = 0 ∧ 0 < 2147483648 ∧ l1.length = m ∧ m < 2147483648) with | true => (match wnOk ([] : List Nat) l1 e with | true => none | false => (match decide (l1.length = m ∧ m < 2147483648) with | true => (match decide (([] : List Nat).length = 0 ∧ ([] : List Nat).length = 0 ∧ 0 < 2147483648 ∧ 0 < 2147483648) with | true => (match !(eqFB ([] : List Nat) ([] : List Nat)) with | true => some (.bool false, [.at false (.fl .f32 l1)]) | false => (match decide (l1.length = m ∧ l1.length = m ∧ m < 2147483648 ∧ m < 2147483648) with | true => (match !(eqFB l1 l1) with | true => some (.bool false, [.at false (.fl .f32 l1)]) | false => (match decide (([] : List Nat).length = 0 ∧ 0 < 2147483648 ∧ 0 ≤ (1 : Int) ∧ (1 : Int).toNat < 2147483648) with | true => (match decide (l1.length = m ∧ m < 2147483648 ∧ 0 ≤ (1 + (0 : Int) : Int) ∧ (1 + (0 : Int) : Int).toNat < 2147483648) with | true => (match decide (((1 + (0 : Int)) + (m : Int) : Int) < 0) with | true => some (.bool false, [.at false (.fl .f32 l1)]) | false => (match decide (l1.length = m ∧ m < 2147483648) with | true => (match decide (([] : List Nat).length = 0 ∧ 0 < 2147483648 ∧ l1.length = m ∧ m < 2147483648) with | true => (match wnOk ([] : List Nat) l1 e with | true => none | false => some (.bool true, [.at false (.fl .f32 l1)])) | false => none) | false => none)) | false => none) | false => none)) | false => none)) | false => none) | false => none)) | false => none) | false => none)) | false => none) | false => none)))) := by
  kernel_rfl

theorem H_lawWnC (m : Nat) (e : Nat) (l1 : List Nat) (hm : l1.length = m) (bhm : m ≤ 9223372036854775807) : run ty tab_lawWnC an_lawWnC 0 Try.f3 [.g [.nil, .sl 0 0 m], .fl .f32 e] [.at false (.fl .f32 l1)] = some (.bool true, [.at false (.fl .f32 l1)]) := by
  refine Eq.trans (run_lawWnC 0 m e l1) ?_
  cases hc1 : decide ((IntKind.i64.wrap (1048576 - ((m : Nat) : Int)) : Int) < 0)
  case false =>
    have fhc1 := of_decide_eq_false hc1
    have ghc1 := sz_le hc1 (by omega) (by omega) (by omega) (by omega)
    have hc2 : (decide (l1.length = m ∧ m < 2147483648)) = true := decide_eq_true (by first | omega | (simp [marks, marksC] <;> omega))
    have hc3 : (decide (([] : List Nat).length = 0 ∧ 0 < 2147483648 ∧ l1.length = m ∧ m < 2147483648)) = true := decide_eq_true (by first | omega | (simp [marks, marksC] <;> omega))
    rw [hc2, hc3]
    cases hc4 : wnOk ([] : List Nat) l1 e
    case false =>
      have hc5 : (decide (([] : List Nat).length = 0 ∧ ([] : List Nat).length = 0 ∧ 0 < 2147483648 ∧ 0 < 2147483648)) = true := decide_eq_true (by first | omega | (simp [marks, marksC] <;> omega))
      have hc6 : (!(eqFB ([] : List Nat) ([] : List Nat))) = false := by rw [eqFB_self]; rfl
      have hc7 : (decide (l1.length = m ∧ l1.length = m ∧ m < 2147483648 ∧ m < 2147483648)) = true := decide_eq_true (by first | omega | (simp [marks, marksC] <;> omega))
      have hc8 : (!(eqFB l1 l1)) = false := by rw [eqFB_self]; rfl
      have hc9 : (decide (([] : List Nat).length = 0 ∧ 0 < 2147483648 ∧ 0 ≤ (1 : Int) ∧ (1 : Int).toNat < 2147483648)) = true := decide_eq_true (by first | omega | (simp [marks, marksC] <;> omega))
      have hc10 : (decide (l1.length = m ∧ m < 2147483648 ∧ 0 ≤ (1 + (0 : Int) : Int) ∧ (1 + (0 : Int) : Int).toNat < 2147483648)) = true := decide_eq_true (by first | omega | (simp [marks, marksC] <;> omega))
      have hc11 : (decide (((1 + (0 : Int)) + (m : Int) : Int) < 0)) = false := decide_eq_false (by first | omega | (simp [marks, marksC] <;> omega))
      rw [hc5, hc6, hc7, hc8, hc9, hc10, hc11]
    case true =>
      have ghc4 := wn_len hc4
      have hc12 : (decide ((wvL e l1).length = (wvL e l1).length ∧ (wvL e l1).length = (wvL e l1).length ∧ (wvL e l1).length < 2147483648 ∧ (wvL e l1).length < 2147483648)) = true := decide_eq_true (by first | omega | (simp [marks, marksC] <;> omega))
      have hc13 : (!(eqCB (wvL e l1) (wvL e l1))) = false := by rw [eqCB_self]; rfl
      have hc14 : (decide (([] : List Nat).length = 0 ∧ ([] : List Nat).length = 0 ∧ 0 < 2147483648 ∧ 0 < 2147483648)) = true := decide_eq_true (by first | omega | (simp [marks, marksC] <;> omega))
      have hc15 : (!(eqFB ([] : List Nat) ([] : List Nat))) = false := by rw [eqFB_self]; rfl
      have hc16 : (decide (l1.length = m ∧ l1.length = m ∧ m < 2147483648 ∧ m < 2147483648)) = true := decide_eq_true (by first | omega | (simp [marks, marksC] <;> omega))
      have hc17 : (!(eqFB l1 l1)) = false := by rw [eqFB_self]; rfl
      have hc18 : (decide (([] : List Nat).length = 0 ∧ 0 < 2147483648 ∧ 0 ≤ (1 : Int) ∧ (1 : Int).toNat < 2147483648)) = true := decide_eq_true (by first | omega | (simp [marks, marksC] <;> omega))
      have hc19 : (decide (l1.length = m ∧ m < 2147483648 ∧ 0 ≤ (1 + (0 : Int) : Int) ∧ (1 + (0 : Int) : Int).toNat < 2147483648)) = true := decide_eq_true (by first | omega | (simp [marks, marksC] <;> omega))
      have hc20 : (decide (((1 + (0 : Int)) + (m : Int) : Int) < 0)) = false := decide_eq_false (by first | omega | (simp [marks, marksC] <;> omega))
      have hc21 : (decide ((wvL e l1).length = (wvL e l1).length ∧ (wvL e l1).length < 2147483648 ∧ 0 ≤ (1 : Int) ∧ (1 : Int).toNat < 2147483648)) = true := decide_eq_true (by first | omega | (simp [marks, marksC] <;> omega))
      have hc22 : (decide (marksC 1 ((wvL e l1).length) = marksC 1 ((wvL e l1).length) ∧ (wvL e l1).length < 2147483648 ∧ 0 ≤ (1 : Int) ∧ (1 : Int).toNat < 2147483648)) = true := decide_eq_true (by first | omega | (simp [marks, marksC] <;> omega))
      have hc23 : (decide ((1 + ((wvL e l1).length : Int) : Int) < 0)) = false := decide_eq_false (by first | omega | (simp [marks, marksC] <;> omega))
      have hc24 : ((1 + ((wvL e l1).length : Int)) != (1 + ((wvL e l1).length : Int))) = false := by first | rfl | simp [marks, marksC]
      rw [hc12, hc13, hc14, hc15, hc16, hc17, hc18, hc19, hc20, hc21, hc22, hc23, hc24]
  case true =>
    have fhc1 := of_decide_eq_true hc1
    rfl
def an_lawWnD : Ann := ⟨fun r =>  none, fun r n => if r = 10 ∧ n = 2 then .grow else .quiet⟩
def tab_lawWnD : Fns := tabT [(15, gA_stlawsszSteps), (17, gA_stlawstoSteps), (16, gWn), (18, gWn), (19, gEqC), (20, gA_stlawseqSteps), (21, gA_stlawsmarkSteps), (22, gMarkC), (23, gHeldC)]
theorem tabok_lawWnD : ∀ f, FnT Try.prog f (tab_lawWnD f) := (tabT_cons (k := 15) okA_stlawsszSteps (tabT_cons (k := 17) okA_stlawstoSteps (tabT_cons (k := 16) ok_wnS (tabT_cons (k := 18) ok_wnI (tabT_cons (k := 19) ok_eqC (tabT_cons (k := 20) okA_stlawseqSteps (tabT_cons (k := 21) okA_stlawsmarkSteps (tabT_cons (k := 22) ok_maC (tabT_cons (k := 23) ok_heC tabT_nil)))))))))
theorem run_lawWnD (N : Nat) (e : Nat) : run ty tab_lawWnD an_lawWnD N Try.f3 [.g [.nil, .nil], .fl .f32 e] []
    = (match decide (([] : List Nat).length = 0 ∧ 0 < 2147483648 ∧ ([] : List Nat).length = 0 ∧ 0 < 2147483648) with | true => (match wnOk ([] : List Nat) ([] : List Nat) e with | true => (match decide (([] : List Nat).length = 0 ∧ 0 < 2147483648 ∧ ([] : List Nat).length = 0 ∧ 0 < 2147483648) with | true => (match wnOk ([] : List Nat) ([] : List Nat) e with | true => (match decide ((wvL e ([] : List Nat)).length = (wvL e ([] : List Nat)).length ∧ (wvL e ([] : List Nat)).length = (wvL e ([] : List Nat)).length ∧ (wvL e ([] : List Nat)).length < 2147483648 ∧ (wvL e ([] : List Nat)).length < 2147483648) with | true => (match !(eqCB (wvL e ([] : List Nat)) (wvL e ([] : List Nat))) with | true => some (.bool false, []) | false => (match decide (([] : List Nat).length = 0 ∧ ([] : List Nat).length = 0 ∧ 0 < 2147483648 ∧ 0 < 2147483648) with | true => (match !(eqFB ([] : List Nat) ([] : List Nat)) with | true => some (.bool false, []) | false => (match decide (([] : List Nat).length = 0 ∧ ([] : List Nat).length = 0 ∧ 0 < 2147483648 ∧ 0 < 2147483648) with | true => (match !(eqFB ([] : List Nat) ([] : List Nat)) with | true => some (.bool false, []) | false => (match decide (([] : List Nat).length = 0 ∧ 0 < 2147483648 ∧ 0 ≤ (1 : Int) ∧ (1 : Int).toNat < 2147483648) with | true => (match decide (([] : List Nat).length = 0 ∧ 0 < 2147483648 ∧ 0 ≤ (1 + (0 : Int) : Int) ∧ (1 + (0 : Int) : Int).toNat < 2147483648) with | true => (match decide (((1 + (0 : Int)) + (0 : Int) : Int) < 0) with | true => some (.bool false, []) | false => (match decide ((wvL e ([] : List Nat)).length = (wvL e ([] : List Nat)).length ∧ (wvL e ([] : List Nat)).length = (wvL e ([] : List Nat)).length ∧ (wvL e ([] : List Nat)).length < 2147483648 ∧ (wvL e ([] : List Nat)).length < 2147483648) with | true => (match !(eqCB (wvL e ([] : List Nat)) (wvL e ([] : List Nat))) with | true => some (.bool false, []) | false => (match decide ((wvL e ([] : List Nat)).length = (wvL e ([] : List Nat)).length ∧ (wvL e ([] : List Nat)).length < 2147483648 ∧ 0 ≤ (1 : Int) ∧ (1 : Int).toNat < 2147483648) with | true => (match decide (marksC 1 ((wvL e ([] : List Nat)).length) = marksC 1 ((wvL e ([] : List Nat)).length) ∧ (wvL e ([] : List Nat)).length < 2147483648 ∧ 0 ≤ (1 : Int) ∧ (1 : Int).toNat < 2147483648) with | true => (match decide ((1 + ((wvL e ([] : List Nat)).length : Int) : Int) < 0) with | true => some (.bool false, []) | false => (match (1 + ((wvL e ([] : List Nat)).length : Int)) != (1 + ((wvL e ([] : List Nat)).length : Int)) with | true => some (.bool false, []) | false => (match decide (([] : List Nat).length = 0 ∧ 0 < 2147483648 ∧ ([] : List Nat).length = 0 ∧ 0 < 2147483648) with | true => (match wnOk ([] : List Nat) ([] : List Nat) e with | true => (match decide ((wvL e ([] : List Nat)).length = (wvL e ([] : List Nat)).length ∧ (wvL e ([] : List Nat)).length = (wvL e ([] : List Nat)).length ∧ (wvL e ([] : List Nat)).length < 2147483648 ∧ (wvL e ([] : List Nat)).length < 2147483648) with | true => (match !(eqCB (wvL e ([] : List Nat)) (wvL e ([] : List Nat))) with | true => some (.bool false, []) | false => (match decide (marksC 1 ((wvL e ([] : List Nat)).length) = marksC 1 ((wvL e ([] : List Nat)).length) ∧ (wvL e ([] : List Nat)).length < 2147483648 ∧ 0 ≤ (1 : Int) ∧ (1 : Int).toNat < 2147483648) with | true => (match decide ((1 + ((wvL e ([] : List Nat)).length : Int) : Int) < 0) with | true => some (.bool false, []) | false => (match (1 + ((wvL e ([] : List Nat)).length : Int)) != (1 + ((wvL e ([] : List Nat)).length : Int)) with | true => some (.bool false, []) | false => some (.bool true, []))) | false => none)) | false => none) | false => none) | false => none))) | false => none) | false => none)) | false => none)) | false => none) | false => none)) | false => none)) | false => none)) | false => none) | false => none) | false => none) | false => (match decide (([] : List Nat).length = 0 ∧ 0 < 2147483648 ∧ ([] : List Nat).length = 0 ∧ 0 < 2147483648) with | true => (match wnOk ([] : List Nat) ([] : List Nat) e with | true => none | false => (match decide (([] : List Nat).length = 0 ∧ ([] : List Nat).length = 0 ∧ 0 < 2147483648 ∧ 0 < 2147483648) with | true => (match !(eqFB ([] : List Nat) ([] : List Nat)) with | true => some (.bool false, []) | false => (match decide (([] : List Nat).length = 0 ∧ ([] : List Nat).length = 0 ∧ 0 < 2147483648 ∧ 0 < 2147483648) with | true => (match !(eqFB ([] : List Nat) ([] : List Nat)) with | true => some (.bool false, []) | false => (match decide (([] : List Nat).length = 0 ∧ 0 < 2147483648 ∧ 0 ≤ (1 : Int) ∧ (1 : Int).toNat < 2147483648) with | true => (match decide (([] : List Nat).length = 0 ∧ 0 < 2147483648 ∧ 0 ≤ (1 + (0 : Int) : Int) ∧ (1 + (0 : Int) : Int).toNat < 2147483648) with | true => (match decide (((1 + (0 : Int)) + (0 : Int) : Int) < 0) with | true => some (.bool false, []) | false => (match decide (([] : List Nat).length = 0 ∧ 0 < 2147483648 ∧ ([] : List Nat).length = 0 ∧ 0 < 2147483648) with | true => (match wnOk ([] : List Nat) ([] : List Nat) e with | true => none | false => some (.bool true, [])) | false => none)) | false => none) | false => none)) | false => none)) | false => none)) | false => none)) | false => none) := by
  kernel_rfl

theorem H_lawWnD (e : Nat)  : run ty tab_lawWnD an_lawWnD 0 Try.f3 [.g [.nil, .nil], .fl .f32 e] [] = some (.bool true, []) := by
  refine Eq.trans (run_lawWnD 0 e) ?_
  have hc1 : (decide (([] : List Nat).length = 0 ∧ 0 < 2147483648 ∧ ([] : List Nat).length = 0 ∧ 0 < 2147483648)) = true := decide_eq_true (by first | omega | (simp [marks, marksC] <;> omega))
  rw [hc1]
  cases hc2 : wnOk ([] : List Nat) ([] : List Nat) e
  case false =>
    have hc3 : (decide (([] : List Nat).length = 0 ∧ ([] : List Nat).length = 0 ∧ 0 < 2147483648 ∧ 0 < 2147483648)) = true := decide_eq_true (by first | omega | (simp [marks, marksC] <;> omega))
    have hc4 : (!(eqFB ([] : List Nat) ([] : List Nat))) = false := by rw [eqFB_self]; rfl
    have hc5 : (decide (([] : List Nat).length = 0 ∧ 0 < 2147483648 ∧ 0 ≤ (1 : Int) ∧ (1 : Int).toNat < 2147483648)) = true := decide_eq_true (by first | omega | (simp [marks, marksC] <;> omega))
    have hc6 : (decide (([] : List Nat).length = 0 ∧ 0 < 2147483648 ∧ 0 ≤ (1 + (0 : Int) : Int) ∧ (1 + (0 : Int) : Int).toNat < 2147483648)) = true := decide_eq_true (by first | omega | (simp [marks, marksC] <;> omega))
    have hc7 : (decide (((1 + (0 : Int)) + (0 : Int) : Int) < 0)) = false := decide_eq_false (by first | omega | (simp [marks, marksC] <;> omega))
    rw [hc3, hc4, hc5, hc6, hc7]
  case true =>
    have ghc2 := wn_len hc2
    have hc8 : (decide ((wvL e ([] : List Nat)).length = (wvL e ([] : List Nat)).length ∧ (wvL e ([] : List Nat)).length = (wvL e ([] : List Nat)).length ∧ (wvL e ([] : List Nat)).length < 2147483648 ∧ (wvL e ([] : List Nat)).length < 2147483648)) = true := decide_eq_true (by first | omega | (simp [marks, marksC] <;> omega))
    have hc9 : (!(eqCB (wvL e ([] : List Nat)) (wvL e ([] : List Nat)))) = false := by rw [eqCB_self]; rfl
    have hc10 : (decide (([] : List Nat).length = 0 ∧ ([] : List Nat).length = 0 ∧ 0 < 2147483648 ∧ 0 < 2147483648)) = true := decide_eq_true (by first | omega | (simp [marks, marksC] <;> omega))
    have hc11 : (!(eqFB ([] : List Nat) ([] : List Nat))) = false := by rw [eqFB_self]; rfl
    have hc12 : (decide (([] : List Nat).length = 0 ∧ 0 < 2147483648 ∧ 0 ≤ (1 : Int) ∧ (1 : Int).toNat < 2147483648)) = true := decide_eq_true (by first | omega | (simp [marks, marksC] <;> omega))
    have hc13 : (decide (([] : List Nat).length = 0 ∧ 0 < 2147483648 ∧ 0 ≤ (1 + (0 : Int) : Int) ∧ (1 + (0 : Int) : Int).toNat < 2147483648)) = true := decide_eq_true (by first | omega | (simp [marks, marksC] <;> omega))
    have hc14 : (decide (((1 + (0 : Int)) + (0 : Int) : Int) < 0)) = false := decide_eq_false (by first | omega | (simp [marks, marksC] <;> omega))
    have hc15 : (decide ((wvL e ([] : List Nat)).length = (wvL e ([] : List Nat)).length ∧ (wvL e ([] : List Nat)).length < 2147483648 ∧ 0 ≤ (1 : Int) ∧ (1 : Int).toNat < 2147483648)) = true := decide_eq_true (by first | omega | (simp [marks, marksC] <;> omega))
    have hc16 : (decide (marksC 1 ((wvL e ([] : List Nat)).length) = marksC 1 ((wvL e ([] : List Nat)).length) ∧ (wvL e ([] : List Nat)).length < 2147483648 ∧ 0 ≤ (1 : Int) ∧ (1 : Int).toNat < 2147483648)) = true := decide_eq_true (by first | omega | (simp [marks, marksC] <;> omega))
    have hc17 : (decide ((1 + ((wvL e ([] : List Nat)).length : Int) : Int) < 0)) = false := decide_eq_false (by first | omega | (simp [marks, marksC] <;> omega))
    have hc18 : ((1 + ((wvL e ([] : List Nat)).length : Int)) != (1 + ((wvL e ([] : List Nat)).length : Int))) = false := by first | rfl | simp [marks, marksC]
    rw [hc8, hc9, hc10, hc11, hc12, hc13, hc14, hc15, hc16, hc17, hc18]
def g_lawWn : G := fun vs h => match vs, h with
  | [.g [.sl 0 0 n, .sl 1 0 m], .fl .f32 e], [.at false (.fl .f32 l0), .at false (.fl .f32 l1)] => if n = l0.length ∧ m = l1.length ∧ l0.length ≤ 9223372036854775807 ∧ l1.length ≤ 9223372036854775807 then some (.bool true, [.at false (.fl .f32 l0), .at false (.fl .f32 l1)]) else none
  | [.g [.sl 0 0 n, .nil], .fl .f32 e], [.at false (.fl .f32 l0)] => if n = l0.length ∧ l0.length ≤ 9223372036854775807 then some (.bool true, [.at false (.fl .f32 l0)]) else none
  | [.g [.nil, .sl 0 0 m], .fl .f32 e], [.at false (.fl .f32 l1)] => if m = l1.length ∧ l1.length ≤ 9223372036854775807 then some (.bool true, [.at false (.fl .f32 l1)]) else none
  | [.g [.nil, .nil], .fl .f32 e], [] => some (.bool true, [])
  | _, _ => none
theorem ok_lawWn : FnOk Try.prog 3 g_lawWn := by
  intro vs hp v h' e
  rw [T.run_of] at e
  unfold g_lawWn at e
  split at e
  · split at e
    · rename_i hc
      cases e
      exact FnT.runs tabok_lawWnA Try.func3 rfl rfl an_lawWnA 0 _ _ _ _ (by rw [T.run_of]; exact H_lawWnA _ _ _ _ _ hc.1.symm (by omega) hc.2.1.symm (by omega))
    · cases e
  · split at e
    · rename_i hc
      cases e
      exact FnT.runs tabok_lawWnB Try.func3 rfl rfl an_lawWnB 0 _ _ _ _ (by rw [T.run_of]; exact H_lawWnB _ _ _ hc.1.symm (by omega))
    · cases e
  · split at e
    · rename_i hc
      cases e
      exact FnT.runs tabok_lawWnC Try.func3 rfl rfl an_lawWnC 0 _ _ _ _ (by rw [T.run_of]; exact H_lawWnC _ _ _ hc.1.symm (by omega))
    · cases e
  · cases e
    exact FnT.runs tabok_lawWnD Try.func3 rfl rfl an_lawWnD 0 _ _ _ _ (by rw [T.run_of]; exact H_lawWnD _)
  · cases e
end Go.Proofs.Ytbhfjdlhhjeknaa.Ab
