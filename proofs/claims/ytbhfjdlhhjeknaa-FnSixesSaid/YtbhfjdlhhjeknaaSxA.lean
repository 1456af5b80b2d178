/- SixShare. Only lemmas. Printed by gen_six.py. -/
import Derived.Test.YtbhfjdlhhjeknaaJnL
namespace Go.Proofs.Ytbhfjdlhhjeknaa.Ab
set_option linter.unusedVariables false
set_option linter.unusedSimpArgs false
open Go
noncomputable section
def nmO {α : Type} (x : α) : Option α := some x
def mxI (x y : Int) : Int := match decide (x > y) with | true => x | false => y
def mnI (x y : Int) : Int := match decide (x < y) with | true => x | false => y
def gmxI : G := fun vs h => match vs, h with | [.int .i64 x, .int .i64 y], [] => some (.int .i64 (mxI x y), []) | _, _ => none
def tab_mx : Fns := tabT []
theorem tabok_mx : ∀ f, FnT Try.prog f (tab_mx f) := tabT_nil
theorem run_mx (N : Nat) (x : Int) (y : Int) : run ty tab_mx ann0 N Try.f113 [.int .i64 x, .int .i64 y] []
    = (match decide ((x : Int) > y) with
  | true => some (.int .i64 x, [])
  | false => some (.int .i64 y, [])) := by
  kernel_rfl

theorem ok_mx : FnT Try.prog 113 (gT gmxI) := by
  refine fnT tabok_mx Try.func113 rfl rfl ann0 fun vs h v h' e => ⟨0, ?_⟩
  rw [T.run_of] at e
  unfold gmxI at e
  split at e
  case h_2 => cases e
  rename_i x y
  cases e
  refine Eq.trans (run_mx 0 x y) ?_
  unfold mxI
  cases decide (x > y) <;> rfl
def gmnI : G := fun vs h => match vs, h with | [.int .i64 x, .int .i64 y], [] => some (.int .i64 (mnI x y), []) | _, _ => none
def tab_mn : Fns := tabT []
theorem tabok_mn : ∀ f, FnT Try.prog f (tab_mn f) := tabT_nil
theorem run_mn (N : Nat) (x : Int) (y : Int) : run ty tab_mn ann0 N Try.f114 [.int .i64 x, .int .i64 y] []
    = (match decide ((x : Int) < y) with
  | true => some (.int .i64 x, [])
  | false => some (.int .i64 y, [])) := by
  kernel_rfl

theorem ok_mn : FnT Try.prog 114 (gT gmnI) := by
  refine fnT tabok_mn Try.func114 rfl rfl ann0 fun vs h v h' e => ⟨0, ?_⟩
  rw [T.run_of] at e
  unfold gmnI at e
  split at e
  case h_2 => cases e
  rename_i x y
  cases e
  refine Eq.trans (run_mn 0 x y) ?_
  unfold mnI
  cases decide (x < y) <;> rfl
def tab_mn3 : Fns := tabT []
theorem tabok_mn3 : ∀ f, FnT Try.prog f (tab_mn3 f) := tabT_nil
theorem run_mn3 (N : Nat) (rw : Bool) (x : Int) (y : Int) (z : Int) : run ty tab_mn3 ann0 (N + 4) Try.f118 [.sl 0 0 3] [.at rw (.int .i64 [x, y, z])]
    = some (.int .i64 (if z < (if y < x then y else x) then z else if y < x then y else x), [.at rw (.int .i64 [x, y, z])]) := by
  kernel_rfl

def mn3 (x y z : Int) : Int := if z < (if y < x then y else x) then z else if y < x then y else x
def gMn3 : GT := fun vs h => match vs, h with | [.sl 0 0 3], [.at rw (.int .i64 [x, y, z])] => .ret (.int .i64 (mn3 x y z)) [.at rw (.int .i64 [x, y, z])] | _, _ => .no
theorem ok_mn3 : FnT Try.prog 118 gMn3 := by
  refine fnT tabok_mn3 Try.func118 rfl rfl ann0 fun vs h v h' e => ⟨0 + 4, ?_⟩
  unfold gMn3 at e
  split at e
  case h_2 => exact (T.no_inv e).elim
  obtain ⟨rfl, rfl⟩ := T.ret_inv e
  exact run_mn3 0 _ _ _ _
def tab_th : Fns := tabT [(115, gFl)]
theorem tabok_th : ∀ f, FnT Try.prog f (tab_th f) := (tabT_cons (k := 115) ok_fl tabT_nil)
theorem run_th (N : Nat) (a : Int) (b : Int) (c : Int) (p : List Int) : run ty tab_th ann0 N Try.f116 [.ptr 0 0, .int .i64 a, .int .i64 b, .int .i64 c] [.at true (.int .i64 p)]
    = (match (flR (IntKind.i64.wrap (Int.tdiv (IntKind.i64.wrap ((IntKind.i64.wrap (a + b)) - c)) 2)) 1 p).isSome with
  | true => (match nmO (α := List Int) (((flR (IntKind.i64.wrap (Int.tdiv (IntKind.i64.wrap ((IntKind.i64.wrap (a + b)) - c)) 2)) 1 p).getD [])) with
    | some w1 => (match (flR (IntKind.i64.wrap (Int.tdiv (IntKind.i64.wrap ((IntKind.i64.wrap (a - b)) + c)) 2)) 1 w1).isSome with
      | true => (match nmO (α := List Int) (((flR (IntKind.i64.wrap (Int.tdiv (IntKind.i64.wrap ((IntKind.i64.wrap (a - b)) + c)) 2)) 1 w1).getD [])) with
        | some w2 => (match (flR (IntKind.i64.wrap (Int.tdiv (IntKind.i64.wrap ((IntKind.i64.wrap (b + c)) - a)) 2)) 1 w2).isSome with
          | true => (match nmO (α := List Int) (((flR (IntKind.i64.wrap (Int.tdiv (IntKind.i64.wrap ((IntKind.i64.wrap (b + c)) - a)) 2)) 1 w2).getD [])) with
            | some w3 => (match (flR (IntKind.i64.wrap ((IntKind.i64.wrap (Int.tdiv (IntKind.i64.wrap ((IntKind.i64.wrap (a + b)) + c)) 2)) + 1)) (-1) w3).isSome with
              | true => (match nmO (α := List Int) (((flR (IntKind.i64.wrap ((IntKind.i64.wrap (Int.tdiv (IntKind.i64.wrap ((IntKind.i64.wrap (a + b)) + c)) 2)) + 1)) (-1) w3).getD [])) with
                | some w4 => some (V.no, [.at true (.int .i64 w4)])
                | none => none)
              | false => none)
            | none => none)
          | false => none)
        | none => none)
      | false => none)
    | none => none)
  | false => none) := by
  kernel_rfl

noncomputable def md_th (N : Nat) (a : Int) (b : Int) (c : Int) (p : List Int) : Option (V × H) := (match (flR (IntKind.i64.wrap (Int.tdiv (IntKind.i64.wrap ((IntKind.i64.wrap (a + b)) - c)) 2)) 1 p).isSome with
  | true => (match nmO (α := List Int) (((flR (IntKind.i64.wrap (Int.tdiv (IntKind.i64.wrap ((IntKind.i64.wrap (a + b)) - c)) 2)) 1 p).getD [])) with
    | some w1 => (match (flR (IntKind.i64.wrap (Int.tdiv (IntKind.i64.wrap ((IntKind.i64.wrap (a - b)) + c)) 2)) 1 w1).isSome with
      | true => (match nmO (α := List Int) (((flR (IntKind.i64.wrap (Int.tdiv (IntKind.i64.wrap ((IntKind.i64.wrap (a - b)) + c)) 2)) 1 w1).getD [])) with
        | some w2 => (match (flR (IntKind.i64.wrap (Int.tdiv (IntKind.i64.wrap ((IntKind.i64.wrap (b + c)) - a)) 2)) 1 w2).isSome with
          | true => (match nmO (α := List Int) (((flR (IntKind.i64.wrap (Int.tdiv (IntKind.i64.wrap ((IntKind.i64.wrap (b + c)) - a)) 2)) 1 w2).getD [])) with
            | some w3 => (match (flR (IntKind.i64.wrap ((IntKind.i64.wrap (Int.tdiv (IntKind.i64.wrap ((IntKind.i64.wrap (a + b)) + c)) 2)) + 1)) (-1) w3).isSome with
              | true => (match nmO (α := List Int) (((flR (IntKind.i64.wrap ((IntKind.i64.wrap (Int.tdiv (IntKind.i64.wrap ((IntKind.i64.wrap (a + b)) + c)) 2)) + 1)) (-1) w3).getD [])) with
                | some w4 => some (V.no, [.at true (.int .i64 w4)])
                | none => none)
              | false => none)
            | none => none)
          | false => none)
        | none => none)
      | false => none)
    | none => none)
  | false => none)
theorem mdl_th (N : Nat) (a : Int) (b : Int) (c : Int) (p : List Int) : run ty tab_th ann0 N Try.f116 [.ptr 0 0, .int .i64 a, .int .i64 b, .int .i64 c] [.at true (.int .i64 p)] = md_th N a b c p := by
  rw [run_th]
  unfold md_th
  first | simp only [eq_self] | rfl

def thR (a b c : Int) (p : List Int) := oL (md_th 0 a b c p)
def gTh : GT := fun vs h => match vs, h with | [.ptr 0 0, .int .i64 a, .int .i64 b, .int .i64 c], [.at true (.int .i64 p)] => .ite (thR a b c p).isSome (.ret (.tup []) [.at true (.int .i64 ((thR a b c p).getD []))]) .no | _, _ => .no
theorem ok_th : FnT Try.prog 116 gTh := by
  refine fnT tabok_th Try.func116 rfl rfl ann0 fun vs h v h' e => ⟨0, ?_⟩
  unfold gTh at e
  split at e
  case h_2 => exact (T.no_inv e).elim
  rename_i a b c p
  obtain ⟨hd, e⟩ := T.pre_inv e
  obtain ⟨rfl, rfl⟩ := T.ret_inv e
  refine Eq.trans (mdl_th 0 a b c p) ?_
  obtain ⟨z, hz⟩ := Option.isSome_iff_exists.mp hd
  rw [hz]
  exact oL_inv hz
def an_A_yexactIntSet_0 : Ann := ⟨fun r =>  none, fun r n => if r = 1 ∧ n = 9 then .plain else .quiet⟩
def tab_A_yexactIntSet_0 : Fns := tabT [(160, gPut)]
theorem tabok_A_yexactIntSet_0 : ∀ f, FnT Try.prog f (tab_A_yexactIntSet_0 f) := (tabT_cons (k := 160) ok_put tabT_nil)
theorem run_A_yexactIntSet_0 (N : Nat) (b0_0 : Bool) (b0_1 : Nat) (b1_0 : Bool) (b1_1 : Nat) (b1_2 : Nat) : run ty tab_A_yexactIntSet_0 an_A_yexactIntSet_0 N Try.f181 [.ptr 0 0, .ptr 1 0] [.at true (.as 1 [.bool b0_0, .big b0_1]), .at true (.as 1 [.bool b1_0, .big b1_1, .big b1_2])]
    = some (.ptr 0 0, [.at true (.as 1 [.bool (b1_0 && (decide (0 < b1_1))), .big b1_1]), .at true (.as 1 [.bool b1_0, .big b1_1, .big b1_2])]) := by
  kernel_rfl

def gA_yexactIntSet : GT := fun vs h => match vs, h with
  | [.ptr 0 0, .ptr 1 0], [.at true (.as 1 [.bool b0_0, .big b0_1]), .at true (.as 1 [.bool b1_0, .big b1_1, .big b1_2])] => .ret (.ptr 0 0) [.at true (.as 1 [.bool (b1_0 && (decide (0 < b1_1))), .big b1_1]), .at true (.as 1 [.bool b1_0, .big b1_1, .big b1_2])]
  | _, _ => .no
theorem okA_yexactIntSet : FnT Try.prog 181 gA_yexactIntSet := by
  intro vs hp v h' e
  unfold gA_yexactIntSet at e
  split at e
  · exact FnT.runs tabok_A_yexactIntSet_0 Try.func181 rfl rfl an_A_yexactIntSet_0 0 _ _ v h' (by rw [T.run_of]; exact Eq.trans (run_A_yexactIntSet_0 0 _ _ _ _ _) e)
  · exact (T.no_inv e).elim
def an_A_yexactIntMul_0 : Ann := ⟨fun r =>  none, fun r n => if r = 1 ∧ n = 18 then .grow else if r = 1 ∧ n = 19 then .plain else .quiet⟩
def tab_A_yexactIntMul_0 : Fns := tabT [(161, gBig2 (fun v w => v * w) (fun v w => lowB v && lowB w)), (160, gPut)]
theorem tabok_A_yexactIntMul_0 : ∀ f, FnT Try.prog f (tab_A_yexactIntMul_0 f) := (tabT_cons (k := 161) ok_mulD (tabT_cons (k := 160) ok_put tabT_nil))
theorem run_A_yexactIntMul_0 (N : Nat) (b0_0 : Bool) (b0_1 : Nat) (b1_0 : Bool) (b1_1 : Nat) : run ty tab_A_yexactIntMul_0 an_A_yexactIntMul_0 N Try.f120 [.ptr 0 0, .ptr 0 0, .ptr 1 0] [.at true (.as 1 [.bool b0_0, .big b0_1]), .at true (.as 1 [.bool b1_0, .big b1_1])]
    = (match lowB b0_1 && lowB b1_1 with
  | true => some (.ptr 0 0, [.at true (.as 1 [.bool ((!(b0_0 == b1_0)) && (decide (0 < b0_1 * b1_1))), .big (b0_1 * b1_1)]), .at true (.as 1 [.bool b1_0, .big b1_1])])
  | false => none) := by
  kernel_rfl

def an_A_yexactIntMul_1 : Ann := ⟨fun r =>  none, fun r n => if r = 1 ∧ n = 18 then .grow else if r = 1 ∧ n = 19 then .plain else .quiet⟩
def tab_A_yexactIntMul_1 : Fns := tabT [(161, gBig2 (fun v w => v * w) (fun v w => lowB v && lowB w)), (160, gPut)]
theorem tabok_A_yexactIntMul_1 : ∀ f, FnT Try.prog f (tab_A_yexactIntMul_1 f) := (tabT_cons (k := 161) ok_mulD (tabT_cons (k := 160) ok_put tabT_nil))
theorem run_A_yexactIntMul_1 (N : Nat) (b0_0 : Bool) (b0_1 : Nat) (b1_0 : Bool) (b1_1 : Nat) (b2_0 : Bool) (b2_1 : Nat) : run ty tab_A_yexactIntMul_1 an_A_yexactIntMul_1 N Try.f120 [.ptr 0 0, .ptr 1 0, .ptr 2 0] [.at true (.as 1 [.bool b0_0, .big b0_1]), .at true (.as 1 [.bool b1_0, .big b1_1]), .at true (.as 1 [.bool b2_0, .big b2_1])]
    = (match lowB b1_1 && lowB b2_1 with
  | true => some (.ptr 0 0, [.at true (.as 1 [.bool ((!(b1_0 == b2_0)) && (decide (0 < b1_1 * b2_1))), .big (b1_1 * b2_1)]), .at true (.as 1 [.bool b1_0, .big b1_1]), .at true (.as 1 [.bool b2_0, .big b2_1])])
  | false => none) := by
  kernel_rfl

def gA_yexactIntMul : GT := fun vs h => match vs, h with
  | [.ptr 0 0, .ptr 0 0, .ptr 1 0], [.at true (.as 1 [.bool b0_0, .big b0_1]), .at true (.as 1 [.bool b1_0, .big b1_1])] => .ite (lowB b0_1 && lowB b1_1) (.ret (.ptr 0 0) [.at true (.as 1 [.bool ((!(b0_0 == b1_0)) && (decide (0 < b0_1 * b1_1))), .big (b0_1 * b1_1)]), .at true (.as 1 [.bool b1_0, .big b1_1])]) (.no)
  | [.ptr 0 0, .ptr 1 0, .ptr 2 0], [.at true (.as 1 [.bool b0_0, .big b0_1]), .at true (.as 1 [.bool b1_0, .big b1_1]), .at true (.as 1 [.bool b2_0, .big b2_1])] => .ite (lowB b1_1 && lowB b2_1) (.ret (.ptr 0 0) [.at true (.as 1 [.bool ((!(b1_0 == b2_0)) && (decide (0 < b1_1 * b2_1))), .big (b1_1 * b2_1)]), .at true (.as 1 [.bool b1_0, .big b1_1]), .at true (.as 1 [.bool b2_0, .big b2_1])]) (.no)
  | _, _ => .no
theorem okA_yexactIntMul : FnT Try.prog 120 gA_yexactIntMul := by
  intro vs hp v h' e
  unfold gA_yexactIntMul at e
  split at e
  · exact FnT.runs tabok_A_yexactIntMul_0 Try.func120 rfl rfl an_A_yexactIntMul_0 0 _ _ v h' (by rw [T.run_of]; exact Eq.trans (run_A_yexactIntMul_0 0 _ _ _ _) e)
  · exact FnT.runs tabok_A_yexactIntMul_1 Try.func120 rfl rfl an_A_yexactIntMul_1 0 _ _ v h' (by rw [T.run_of]; exact Eq.trans (run_A_yexactIntMul_1 0 _ _ _ _ _ _) e)
  · exact (T.no_inv e).elim
def tab_A_yexactIntSign_0 : Fns := tabT []
theorem tabok_A_yexactIntSign_0 : ∀ f, FnT Try.prog f (tab_A_yexactIntSign_0 f) := tabT_nil
theorem run_A_yexactIntSign_0 (N : Nat) (b0_0 : Bool) (b0_1 : Nat) (b0_2 : Nat) : run ty tab_A_yexactIntSign_0 ann0 N Try.f151 [.ptr 0 0] [.at true (.as 1 [.bool b0_0, .big b0_1, .big b0_2])]
    = (match b0_0 with
  | true => some (.int .i64 (-1), [.at true (.as 1 [.bool b0_0, .big b0_1, .big b0_2])])
  | false => (match decide ((((ndig b0_1 : Nat) : Int) : Int) > 0) with
    | true => some (.int .i64 1, [.at true (.as 1 [.bool b0_0, .big b0_1, .big b0_2])])
    | false => some (.int .i64 0, [.at true (.as 1 [.bool b0_0, .big b0_1, .big b0_2])]))) := by
  kernel_rfl

def gA_yexactIntSign : GT := fun vs h => match vs, h with
  | [.ptr 0 0], [.at true (.as 1 [.bool b0_0, .big b0_1, .big b0_2])] => .ite (b0_0) (.ret (.int .i64 (-1)) [.at true (.as 1 [.bool b0_0, .big b0_1, .big b0_2])]) (.ite (decide ((((ndig b0_1 : Nat) : Int) : Int) > 0)) (.ret (.int .i64 1) [.at true (.as 1 [.bool b0_0, .big b0_1, .big b0_2])]) (.ret (.int .i64 0) [.at true (.as 1 [.bool b0_0, .big b0_1, .big b0_2])]))
  | _, _ => .no
theorem okA_yexactIntSign : FnT Try.prog 151 gA_yexactIntSign := by
  intro vs hp v h' e
  unfold gA_yexactIntSign at e
  split at e
  · exact FnT.runs tabok_A_yexactIntSign_0 Try.func151 rfl rfl ann0 0 _ _ v h' (by rw [T.run_of]; exact Eq.trans (run_A_yexactIntSign_0 0 _ _ _) e)
  · exact (T.no_inv e).elim
def tab_A_yexactRatSet_0 : Fns := tabT []
theorem tabok_A_yexactRatSet_0 : ∀ f, FnT Try.prog f (tab_A_yexactRatSet_0 f) := tabT_nil
theorem run_A_yexactRatSet_0 (N : Nat) (b0_0 : Bool) (b0_1 : Nat) (b0_2 : Nat) : run ty tab_A_yexactRatSet_0 ann0 N Try.f163 [.ptr 0 0, .ptr 0 0] [.at true (.as 1 [.bool b0_0, .big b0_1, .big b0_2])]
    = some (.ptr 0 0, [.at true (.as 1 [.bool b0_0, .big b0_1, .big b0_2])]) := by
  kernel_rfl

def gA_yexactRatSet : GT := fun vs h => match vs, h with
  | [.ptr 0 0, .ptr 0 0], [.at true (.as 1 [.bool b0_0, .big b0_1, .big b0_2])] => .ret (.ptr 0 0) [.at true (.as 1 [.bool b0_0, .big b0_1, .big b0_2])]
  | _, _ => .no
theorem okA_yexactRatSet : FnT Try.prog 163 gA_yexactRatSet := by
  intro vs hp v h' e
  unfold gA_yexactRatSet at e
  split at e
  · exact FnT.runs tabok_A_yexactRatSet_0 Try.func163 rfl rfl ann0 0 _ _ v h' (by rw [T.run_of]; exact Eq.trans (run_A_yexactRatSet_0 0 _ _ _) e)
  · exact (T.no_inv e).elim
def tab_A_yexactRatNum_0 : Fns := tabT [(181, gA_yexactIntSet)]
theorem tabok_A_yexactRatNum_0 : ∀ f, FnT Try.prog f (tab_A_yexactRatNum_0 f) := (tabT_cons (k := 181) okA_yexactIntSet tabT_nil)
theorem run_A_yexactRatNum_0 (N : Nat) (b0_0 : Bool) (b0_1 : Nat) (b0_2 : Nat) : run ty tab_A_yexactRatNum_0 ann0 N Try.f165 [.ptr 0 0] [.at true (.as 1 [.bool b0_0, .big b0_1, .big b0_2])]
    = some (.ptr 1 0, [.at true (.as 1 [.bool b0_0, .big b0_1, .big b0_2]), .at true (.as 1 [.bool (b0_0 && (decide (0 < b0_1))), .big b0_1])]) := by
  kernel_rfl

def gA_yexactRatNum : GT := fun vs h => match vs, h with
  | [.ptr 0 0], [.at true (.as 1 [.bool b0_0, .big b0_1, .big b0_2])] => .ret (.ptr 1 0) [.at true (.as 1 [.bool b0_0, .big b0_1, .big b0_2]), .at true (.as 1 [.bool (b0_0 && (decide (0 < b0_1))), .big b0_1])]
  | _, _ => .no
theorem okA_yexactRatNum : FnT Try.prog 165 gA_yexactRatNum := by
  intro vs hp v h' e
  unfold gA_yexactRatNum at e
  split at e
  · exact FnT.runs tabok_A_yexactRatNum_0 Try.func165 rfl rfl ann0 0 _ _ v h' (by rw [T.run_of]; exact Eq.trans (run_A_yexactRatNum_0 0 _ _ _) e)
  · exact (T.no_inv e).elim
def tab_A_yexactRatAdd_0 : Fns := tabT [(164, gDenom), (165, gA_yexactRatNum), (120, gA_yexactIntMul), (150, gAddI), (122, gSetFrac)]
theorem tabok_A_yexactRatAdd_0 : ∀ f, FnT Try.prog f (tab_A_yexactRatAdd_0 f) := (tabT_cons (k := 164) ok_Denom (tabT_cons (k := 165) okA_yexactRatNum (tabT_cons (k := 120) okA_yexactIntMul (tabT_cons (k := 150) ok_addI (tabT_cons (k := 122) ok_SetFrac tabT_nil)))))
theorem run_A_yexactRatAdd_0 (N : Nat) (b0_0 : Bool) (b0_1 : Nat) (b0_2 : Nat) (b1_0 : Bool) (b1_1 : Nat) (b1_2 : Nat) : run ty tab_A_yexactRatAdd_0 ann0 N Try.f124 [.ptr 0 0, .ptr 0 0, .ptr 1 0] [.at true (.as 1 [.bool b0_0, .big b0_1, .big b0_2]), .at true (.as 1 [.bool b1_0, .big b1_1, .big b1_2])]
    = (match lowB b0_1 && lowB (dn b1_2) with
  | true => (match lowB b1_1 && lowB (dn b0_2) with
    | true => (match lowB (b0_1 * (dn b1_2)) && lowB (b1_1 * (dn b0_2)) with
      | true => (match lowB (dn b0_2) && lowB (dn b1_2) with
        | true => (match lowB (((sgI ((!((b0_0 && (decide (0 < b0_1))) == false)) && (decide (0 < b0_1 * (dn b1_2)))) (b0_1 * (dn b1_2))) + (sgI ((!((b1_0 && (decide (0 < b1_1))) == false)) && (decide (0 < b1_1 * (dn b0_2)))) (b1_1 * (dn b0_2)))).natAbs) && lowB ((dn b0_2) * (dn b1_2)) && decide (0 < ((dn b0_2) * (dn b1_2))) with
          | true => some (.ptr 0 0, [.at true (.as 1 [.bool (((decide ((sgI ((!((b0_0 && (decide (0 < b0_1))) == false)) && (decide (0 < b0_1 * (dn b1_2)))) (b0_1 * (dn b1_2))) + (sgI ((!((b1_0 && (decide (0 < b1_1))) == false)) && (decide (0 < b1_1 * (dn b0_2)))) (b1_1 * (dn b0_2))) < 0)) != false) && (decide (0 < (((sgI ((!((b0_0 && (decide (0 < b0_1))) == false)) && (decide (0 < b0_1 * (dn b1_2)))) (b0_1 * (dn b1_2))) + (sgI ((!((b1_0 && (decide (0 < b1_1))) == false)) && (decide (0 < b1_1 * (dn b0_2)))) (b1_1 * (dn b0_2)))).natAbs) / (Nat.gcd (((sgI ((!((b0_0 && (decide (0 < b0_1))) == false)) && (decide (0 < b0_1 * (dn b1_2)))) (b0_1 * (dn b1_2))) + (sgI ((!((b1_0 && (decide (0 < b1_1))) == false)) && (decide (0 < b1_1 * (dn b0_2)))) (b1_1 * (dn b0_2)))).natAbs) ((dn b0_2) * (dn b1_2)))))), .big ((((sgI ((!((b0_0 && (decide (0 < b0_1))) == false)) && (decide (0 < b0_1 * (dn b1_2)))) (b0_1 * (dn b1_2))) + (sgI ((!((b1_0 && (decide (0 < b1_1))) == false)) && (decide (0 < b1_1 * (dn b0_2)))) (b1_1 * (dn b0_2)))).natAbs) / (Nat.gcd (((sgI ((!((b0_0 && (decide (0 < b0_1))) == false)) && (decide (0 < b0_1 * (dn b1_2)))) (b0_1 * (dn b1_2))) + (sgI ((!((b1_0 && (decide (0 < b1_1))) == false)) && (decide (0 < b1_1 * (dn b0_2)))) (b1_1 * (dn b0_2)))).natAbs) ((dn b0_2) * (dn b1_2)))), .big (((dn b0_2) * (dn b1_2)) / (Nat.gcd (((sgI ((!((b0_0 && (decide (0 < b0_1))) == false)) && (decide (0 < b0_1 * (dn b1_2)))) (b0_1 * (dn b1_2))) + (sgI ((!((b1_0 && (decide (0 < b1_1))) == false)) && (decide (0 < b1_1 * (dn b0_2)))) (b1_1 * (dn b0_2)))).natAbs) ((dn b0_2) * (dn b1_2))))]), .at true (.as 1 [.bool b1_0, .big b1_1, .big b1_2])])
          | false => none)
        | false => none)
      | false => none)
    | false => none)
  | false => none) := by
  kernel_rfl

def gA_yexactRatAdd : GT := fun vs h => match vs, h with
  | [.ptr 0 0, .ptr 0 0, .ptr 1 0], [.at true (.as 1 [.bool b0_0, .big b0_1, .big b0_2]), .at true (.as 1 [.bool b1_0, .big b1_1, .big b1_2])] => .ite (lowB b0_1 && lowB (dn b1_2)) (.ite (lowB b1_1 && lowB (dn b0_2)) (.ite (lowB (b0_1 * (dn b1_2)) && lowB (b1_1 * (dn b0_2))) (.ite (lowB (dn b0_2) && lowB (dn b1_2)) (.ite (lowB (((sgI ((!((b0_0 && (decide (0 < b0_1))) == false)) && (decide (0 < b0_1 * (dn b1_2)))) (b0_1 * (dn b1_2))) + (sgI ((!((b1_0 && (decide (0 < b1_1))) == false)) && (decide (0 < b1_1 * (dn b0_2)))) (b1_1 * (dn b0_2)))).natAbs) && lowB ((dn b0_2) * (dn b1_2)) && decide (0 < ((dn b0_2) * (dn b1_2)))) (.ret (.ptr 0 0) [.at true (.as 1 [.bool (((decide ((sgI ((!((b0_0 && (decide (0 < b0_1))) == false)) && (decide (0 < b0_1 * (dn b1_2)))) (b0_1 * (dn b1_2))) + (sgI ((!((b1_0 && (decide (0 < b1_1))) == false)) && (decide (0 < b1_1 * (dn b0_2)))) (b1_1 * (dn b0_2))) < 0)) != false) && (decide (0 < (((sgI ((!((b0_0 && (decide (0 < b0_1))) == false)) && (decide (0 < b0_1 * (dn b1_2)))) (b0_1 * (dn b1_2))) + (sgI ((!((b1_0 && (decide (0 < b1_1))) == false)) && (decide (0 < b1_1 * (dn b0_2)))) (b1_1 * (dn b0_2)))).natAbs) / (Nat.gcd (((sgI ((!((b0_0 && (decide (0 < b0_1))) == false)) && (decide (0 < b0_1 * (dn b1_2)))) (b0_1 * (dn b1_2))) + (sgI ((!((b1_0 && (decide (0 < b1_1))) == false)) && (decide (0 < b1_1 * (dn b0_2)))) (b1_1 * (dn b0_2)))).natAbs) ((dn b0_2) * (dn b1_2)))))), .big ((((sgI ((!((b0_0 && (decide (0 < b0_1))) == false)) && (decide (0 < b0_1 * (dn b1_2)))) (b0_1 * (dn b1_2))) + (sgI ((!((b1_0 && (decide (0 < b1_1))) == false)) && (decide (0 < b1_1 * (dn b0_2)))) (b1_1 * (dn b0_2)))).natAbs) / (Nat.gcd (((sgI ((!((b0_0 && (decide (0 < b0_1))) == false)) && (decide (0 < b0_1 * (dn b1_2)))) (b0_1 * (dn b1_2))) + (sgI ((!((b1_0 && (decide (0 < b1_1))) == false)) && (decide (0 < b1_1 * (dn b0_2)))) (b1_1 * (dn b0_2)))).natAbs) ((dn b0_2) * (dn b1_2)))), .big (((dn b0_2) * (dn b1_2)) / (Nat.gcd (((sgI ((!((b0_0 && (decide (0 < b0_1))) == false)) && (decide (0 < b0_1 * (dn b1_2)))) (b0_1 * (dn b1_2))) + (sgI ((!((b1_0 && (decide (0 < b1_1))) == false)) && (decide (0 < b1_1 * (dn b0_2)))) (b1_1 * (dn b0_2)))).natAbs) ((dn b0_2) * (dn b1_2))))]), .at true (.as 1 [.bool b1_0, .big b1_1, .big b1_2])]) (.no)) (.no)) (.no)) (.no)) (.no)
  | _, _ => .no
theorem okA_yexactRatAdd : FnT Try.prog 124 gA_yexactRatAdd := by
  intro vs hp v h' e
  unfold gA_yexactRatAdd at e
  split at e
  · exact FnT.runs tabok_A_yexactRatAdd_0 Try.func124 rfl rfl ann0 0 _ _ v h' (by rw [T.run_of]; exact Eq.trans (run_A_yexactRatAdd_0 0 _ _ _ _ _ _) e)
  · exact (T.no_inv e).elim
def tab_A_yexactRatMul_0 : Fns := tabT [(165, gA_yexactRatNum), (120, gA_yexactIntMul), (164, gDenom), (122, gSetFrac)]
theorem tabok_A_yexactRatMul_0 : ∀ f, FnT Try.prog f (tab_A_yexactRatMul_0 f) := (tabT_cons (k := 165) okA_yexactRatNum (tabT_cons (k := 120) okA_yexactIntMul (tabT_cons (k := 164) ok_Denom (tabT_cons (k := 122) ok_SetFrac tabT_nil))))
theorem run_A_yexactRatMul_0 (N : Nat) (b0_0 : Bool) (b0_1 : Nat) (b0_2 : Nat) (b1_0 : Bool) (b1_1 : Nat) (b1_2 : Nat) : run ty tab_A_yexactRatMul_0 ann0 N Try.f125 [.ptr 0 0, .ptr 1 0, .ptr 1 0] [.at true (.as 1 [.bool b0_0, .big b0_1, .big b0_2]), .at true (.as 1 [.bool b1_0, .big b1_1, .big b1_2])]
    = (match lowB b1_1 && lowB b1_1 with
  | true => (match lowB (dn b1_2) && lowB (dn b1_2) with
    | true => (match lowB (b1_1 * b1_1) && lowB ((dn b1_2) * (dn b1_2)) && decide (0 < ((dn b1_2) * (dn b1_2))) with
      | true => some (.ptr 0 0, [.at true (.as 1 [.bool ((((!((b1_0 && (decide (0 < b1_1))) == (b1_0 && (decide (0 < b1_1))))) && (decide (0 < b1_1 * b1_1))) != false) && (decide (0 < (b1_1 * b1_1) / (Nat.gcd (b1_1 * b1_1) ((dn b1_2) * (dn b1_2)))))), .big ((b1_1 * b1_1) / (Nat.gcd (b1_1 * b1_1) ((dn b1_2) * (dn b1_2)))), .big (((dn b1_2) * (dn b1_2)) / (Nat.gcd (b1_1 * b1_1) ((dn b1_2) * (dn b1_2))))]), .at true (.as 1 [.bool b1_0, .big b1_1, .big b1_2])])
      | false => none)
    | false => none)
  | false => none) := by
  kernel_rfl

def tab_A_yexactRatMul_1 : Fns := tabT [(165, gA_yexactRatNum), (120, gA_yexactIntMul), (164, gDenom), (122, gSetFrac)]
theorem tabok_A_yexactRatMul_1 : ∀ f, FnT Try.prog f (tab_A_yexactRatMul_1 f) := (tabT_cons (k := 165) okA_yexactRatNum (tabT_cons (k := 120) okA_yexactIntMul (tabT_cons (k := 164) ok_Denom (tabT_cons (k := 122) ok_SetFrac tabT_nil))))
theorem run_A_yexactRatMul_1 (N : Nat) (b0_0 : Bool) (b0_1 : Nat) (b0_2 : Nat) (b1_0 : Bool) (b1_1 : Nat) (b1_2 : Nat) : run ty tab_A_yexactRatMul_1 ann0 N Try.f125 [.ptr 0 0, .ptr 0 0, .ptr 1 0] [.at true (.as 1 [.bool b0_0, .big b0_1, .big b0_2]), .at true (.as 1 [.bool b1_0, .big b1_1, .big b1_2])]
    = (match lowB b0_1 && lowB b1_1 with
  | true => (match lowB (dn b0_2) && lowB (dn b1_2) with
    | true => (match lowB (b0_1 * b1_1) && lowB ((dn b0_2) * (dn b1_2)) && decide (0 < ((dn b0_2) * (dn b1_2))) with
      | true => some (.ptr 0 0, [.at true (.as 1 [.bool ((((!((b0_0 && (decide (0 < b0_1))) == (b1_0 && (decide (0 < b1_1))))) && (decide (0 < b0_1 * b1_1))) != false) && (decide (0 < (b0_1 * b1_1) / (Nat.gcd (b0_1 * b1_1) ((dn b0_2) * (dn b1_2)))))), .big ((b0_1 * b1_1) / (Nat.gcd (b0_1 * b1_1) ((dn b0_2) * (dn b1_2)))), .big (((dn b0_2) * (dn b1_2)) / (Nat.gcd (b0_1 * b1_1) ((dn b0_2) * (dn b1_2))))]), .at true (.as 1 [.bool b1_0, .big b1_1, .big b1_2])])
      | false => none)
    | false => none)
  | false => none) := by
  kernel_rfl

def gA_yexactRatMul : GT := fun vs h => match vs, h with
  | [.ptr 0 0, .ptr 1 0, .ptr 1 0], [.at true (.as 1 [.bool b0_0, .big b0_1, .big b0_2]), .at true (.as 1 [.bool b1_0, .big b1_1, .big b1_2])] => .ite (lowB b1_1 && lowB b1_1) (.ite (lowB (dn b1_2) && lowB (dn b1_2)) (.ite (lowB (b1_1 * b1_1) && lowB ((dn b1_2) * (dn b1_2)) && decide (0 < ((dn b1_2) * (dn b1_2)))) (.ret (.ptr 0 0) [.at true (.as 1 [.bool ((((!((b1_0 && (decide (0 < b1_1))) == (b1_0 && (decide (0 < b1_1))))) && (decide (0 < b1_1 * b1_1))) != false) && (decide (0 < (b1_1 * b1_1) / (Nat.gcd (b1_1 * b1_1) ((dn b1_2) * (dn b1_2)))))), .big ((b1_1 * b1_1) / (Nat.gcd (b1_1 * b1_1) ((dn b1_2) * (dn b1_2)))), .big (((dn b1_2) * (dn b1_2)) / (Nat.gcd (b1_1 * b1_1) ((dn b1_2) * (dn b1_2))))]), .at true (.as 1 [.bool b1_0, .big b1_1, .big b1_2])]) (.no)) (.no)) (.no)
  | [.ptr 0 0, .ptr 0 0, .ptr 1 0], [.at true (.as 1 [.bool b0_0, .big b0_1, .big b0_2]), .at true (.as 1 [.bool b1_0, .big b1_1, .big b1_2])] => .ite (lowB b0_1 && lowB b1_1) (.ite (lowB (dn b0_2) && lowB (dn b1_2)) (.ite (lowB (b0_1 * b1_1) && lowB ((dn b0_2) * (dn b1_2)) && decide (0 < ((dn b0_2) * (dn b1_2)))) (.ret (.ptr 0 0) [.at true (.as 1 [.bool ((((!((b0_0 && (decide (0 < b0_1))) == (b1_0 && (decide (0 < b1_1))))) && (decide (0 < b0_1 * b1_1))) != false) && (decide (0 < (b0_1 * b1_1) / (Nat.gcd (b0_1 * b1_1) ((dn b0_2) * (dn b1_2)))))), .big ((b0_1 * b1_1) / (Nat.gcd (b0_1 * b1_1) ((dn b0_2) * (dn b1_2)))), .big (((dn b0_2) * (dn b1_2)) / (Nat.gcd (b0_1 * b1_1) ((dn b0_2) * (dn b1_2))))]), .at true (.as 1 [.bool b1_0, .big b1_1, .big b1_2])]) (.no)) (.no)) (.no)
  | _, _ => .no
theorem okA_yexactRatMul : FnT Try.prog 125 gA_yexactRatMul := by
  intro vs hp v h' e
  unfold gA_yexactRatMul at e
  split at e
  · exact FnT.runs tabok_A_yexactRatMul_0 Try.func125 rfl rfl ann0 0 _ _ v h' (by rw [T.run_of]; exact Eq.trans (run_A_yexactRatMul_0 0 _ _ _ _ _ _) e)
  · exact FnT.runs tabok_A_yexactRatMul_1 Try.func125 rfl rfl ann0 0 _ _ v h' (by rw [T.run_of]; exact Eq.trans (run_A_yexactRatMul_1 0 _ _ _ _ _ _) e)
  · exact (T.no_inv e).elim
def an_A_yexactRatNeg_0 : Ann := ⟨fun r =>  none, fun r n => if r = 2 ∧ n = 14 then .plain else .quiet⟩
def tab_A_yexactRatNeg_0 : Fns := tabT [(163, gA_yexactRatSet), (160, gPut)]
theorem tabok_A_yexactRatNeg_0 : ∀ f, FnT Try.prog f (tab_A_yexactRatNeg_0 f) := (tabT_cons (k := 163) okA_yexactRatSet (tabT_cons (k := 160) ok_put tabT_nil))
theorem run_A_yexactRatNeg_0 (N : Nat) (b0_0 : Bool) (b0_1 : Nat) (b0_2 : Nat) : run ty tab_A_yexactRatNeg_0 an_A_yexactRatNeg_0 N Try.f123 [.ptr 0 0, .ptr 0 0] [.at true (.as 1 [.bool b0_0, .big b0_1, .big b0_2])]
    = some (.ptr 0 0, [.at true (.as 1 [.bool (!b0_0 && (decide (0 < b0_1))), .big b0_1, .big b0_2])]) := by
  kernel_rfl

def gA_yexactRatNeg : GT := fun vs h => match vs, h with
  | [.ptr 0 0, .ptr 0 0], [.at true (.as 1 [.bool b0_0, .big b0_1, .big b0_2])] => .ret (.ptr 0 0) [.at true (.as 1 [.bool (!b0_0 && (decide (0 < b0_1))), .big b0_1, .big b0_2])]
  | _, _ => .no
theorem okA_yexactRatNeg : FnT Try.prog 123 gA_yexactRatNeg := by
  intro vs hp v h' e
  unfold gA_yexactRatNeg at e
  split at e
  · exact FnT.runs tabok_A_yexactRatNeg_0 Try.func123 rfl rfl an_A_yexactRatNeg_0 0 _ _ v h' (by rw [T.run_of]; exact Eq.trans (run_A_yexactRatNeg_0 0 _ _ _) e)
  · exact (T.no_inv e).elim
def tab_A_yexactRatSign_0 : Fns := tabT [(151, gA_yexactIntSign)]
theorem tabok_A_yexactRatSign_0 : ∀ f, FnT Try.prog f (tab_A_yexactRatSign_0 f) := (tabT_cons (k := 151) okA_yexactIntSign tabT_nil)
theorem run_A_yexactRatSign_0 (N : Nat) (b0_0 : Bool) (b0_1 : Nat) (b0_2 : Nat) : run ty tab_A_yexactRatSign_0 ann0 N Try.f128 [.ptr 0 0] [.at true (.as 1 [.bool b0_0, .big b0_1, .big b0_2])]
    = (match b0_0 with
  | true => some (.int .i64 (-1), [.at true (.as 1 [.bool b0_0, .big b0_1, .big b0_2])])
  | false => (match decide ((((ndig b0_1 : Nat) : Int) : Int) > 0) with
    | true => some (.int .i64 1, [.at true (.as 1 [.bool b0_0, .big b0_1, .big b0_2])])
    | false => some (.int .i64 0, [.at true (.as 1 [.bool b0_0, .big b0_1, .big b0_2])]))) := by
  kernel_rfl

def gA_yexactRatSign : GT := fun vs h => match vs, h with
  | [.ptr 0 0], [.at true (.as 1 [.bool b0_0, .big b0_1, .big b0_2])] => .ite (b0_0) (.ret (.int .i64 (-1)) [.at true (.as 1 [.bool b0_0, .big b0_1, .big b0_2])]) (.ite (decide ((((ndig b0_1 : Nat) : Int) : Int) > 0)) (.ret (.int .i64 1) [.at true (.as 1 [.bool b0_0, .big b0_1, .big b0_2])]) (.ret (.int .i64 0) [.at true (.as 1 [.bool b0_0, .big b0_1, .big b0_2])]))
  | _, _ => .no
theorem okA_yexactRatSign : FnT Try.prog 128 gA_yexactRatSign := by
  intro vs hp v h' e
  unfold gA_yexactRatSign at e
  split at e
  · exact FnT.runs tabok_A_yexactRatSign_0 Try.func128 rfl rfl ann0 0 _ _ v h' (by rw [T.run_of]; exact Eq.trans (run_A_yexactRatSign_0 0 _ _ _) e)
  · exact (T.no_inv e).elim
def an_sxI : Ann := ⟨fun r => if r = 17 then some ([16, 17, 22, 23, 24], [16, 23]) else none, fun _ _ => .quiet⟩
def tab_sxI : Fns := tabT [(112, gTurns), (93, gT gtotI), (118, gMn3), (119, gNewInt), (121, gFac), (120, gA_yexactIntMul), (122, gSetFrac), (123, gA_yexactRatNeg), (124, gA_yexactRatAdd), (125, gA_yexactRatMul), (126, gPrd), (127, gFrac), (128, gA_yexactRatSign)]
theorem tabok_sxI : ∀ f, FnT Try.prog f (tab_sxI f) := (tabT_cons (k := 112) ok_areT (tabT_cons (k := 93) ok_isTotal (tabT_cons (k := 118) ok_mn3 (tabT_cons (k := 119) ok_newInt (tabT_cons (k := 121) ok_fac (tabT_cons (k := 120) okA_yexactIntMul (tabT_cons (k := 122) ok_SetFrac (tabT_cons (k := 123) okA_yexactRatNeg (tabT_cons (k := 124) okA_yexactRatAdd (tabT_cons (k := 125) okA_yexactRatMul (tabT_cons (k := 126) ok_prd (tabT_cons (k := 127) ok_fractionOf (tabT_cons (k := 128) okA_yexactRatSign tabT_nil)))))))))))))
def st_sxI17 (t24 : Int) (b0_0 : Int) (b0_1 : Int) (b0_2 : Int) (b0_4 : Int) (b0_5 : Int) (b0_6 : Int) (b1_0 : Int) (b1_1 : Int) (b1_2 : Int) (b1_3 : Int) (b2_0 : Int) (b2_1 : Int) (b2_2 : Int) (b3_0 : Bool) (b3_1 : Nat) (b3_2 : Nat) : St := ⟨[.any, .any, .any, .any, .any, .any, .any, .any, .any, .any, .any, .any, .any, .any, .any, .any, .sl 0 0 4, .sl 1 0 4, .any, .any, .any, .any, .sl 2 0 3, .ptr 3 0, .int .i64 t24, .any, .any, .any, .any, .any, .any, .any, .any, .any, .any, .any, .any, .any, .any, .any, .any, .any, .any, .any, .any, .any, .any, .any, .any, .any, .any, .any, .any, .any, .any, .any, .any, .any, .any, .any, .any, .any, .any, .any, .any, .any, .any, .any, .any, .any, .any, .any, .any, .any, .any, .any, .any, .any, .any, .any, .any, .any, .any, .any, .any, .any, .any, .any, .any, .any, .any, .any, .any, .any, .any, .any, .any, .any, .any, .any, .any, .any, .any, .any, .any, .any, .any, .any, .any, .any, .any, .any, .any, .any, .any, .any, .any, .any, .any, .any, .any, .any, .any, .any, .any, .any, .any, .any, .any, .any, .any, .any, .any, .any, .any, .any, .any, .any, .any, .any, .any, .any, .any, .any, .any, .any, .any, .any, .any, .any, .any, .any, .any, .any, .any, .any, .any, .any, .any, .any, .any, .any, .any, .any, .any, .any, .any, .any, .any, .any, .any, .any, .any, .any, .any, .any, .any, .any, .any, .any, .any, .any, .any, .any, .any, .any, .any, .any, .any, .any, .any, .any, .any, .any, .any, .any, .any, .any, .any, .any, .any, .any, .any, .any, .any, .any, .any, .any, .any, .any, .any, .any, .any, .any, .any, .any, .any, .any, .any, .any, .any, .any, .any, .any, .any, .any, .any, .any, .any, .any, .any, .any, .any, .any, .any, .any, .any, .any], [.at true (.as 3 [.int .i64 b0_0, .int .i64 b0_1, .int .i64 b0_2, .int .i64 b0_0, .int .i64 b0_4, .int .i64 b0_5, .int .i64 b0_6, .int .i64 b0_1, .int .i64 b0_5, .int .i64 b0_6, .int .i64 b0_4, .int .i64 b0_2]), .at true (.int .i64 [b1_0, b1_1, b1_2, b1_3]), .at true (.int .i64 [b2_0, b2_1, b2_2]), .at true (.as 1 [.bool b3_0, .big b3_1, .big b3_2])]⟩
abbrev kp_sxI17 : Option (List Nat × List Nat) := some ([16, 17, 22, 23, 24], [16, 23])
noncomputable def lp_sxI17 {R : Type} (N M : Nat) (s : St) (K : X → St → Option R) : Option R := loopH 0 kp_sxI17 (fun st K => exec ty tab_sxI an_sxI N 0 (atOf [true, true, true, true, true, true, true, false, true, false, false] Try.f54) st K) M s K
noncomputable def bk_sxI17 {R : Type} (N M : Nat) (K : X → St → Option R) : X → St → Option R := fun x st => match x with | .norm => tidyK 0 (kp_sxI17.map (·.1)) st fun st => lp_sxI17 N M st K | x => tidyK 0 (kp_sxI17.map (·.2)) st fun st => K x st
noncomputable def kt_sxI17 {R : Type} (N : Nat) (K : X → St → Option R) : X → St → Option R := kBlkR 2 (kSeqR tab_sxI an_sxI N 0 (atOf [true, true, true, true, true, true, true, true] Try.f54) (K))
def en_sxI17_0 (b0_0 : Int) (b0_1 : Int) (b0_2 : Int) (b0_4 : Int) (b0_5 : Int) (b0_6 : Int) (b1_0 : Bool) (b1_1 : Nat) (b1_2 : Nat) : St := ⟨[.any, .any, .any, .any, .any, .any, .any, .any, .any, .any, .any, .any, .any, .any, .any, .any, .sl 0 0 4, .any, .any, .any, .any, .any, .any, .ptr 1 0, .any, .any, .any, .any, .any, .any, .any, .any, .any, .any, .any, .any, .any, .any, .any, .any, .any, .any, .any, .any, .any, .any, .any, .any, .any, .any, .any, .any, .any, .any, .any, .any, .any, .any, .any, .any, .any, .any, .any, .any, .any, .any, .any, .any, .any, .any, .any, .any, .any, .any, .any, .any, .any, .any, .any, .any, .any, .any, .any, .any, .any, .any, .any, .any, .any, .any, .any, .any, .any, .any, .any, .any, .any, .any, .any, .any, .any, .any, .any, .any, .any, .any, .any, .any, .any, .any, .any, .any, .any, .any, .any, .any, .any, .any, .any, .any, .any, .any, .any, .any, .any, .any, .any, .any, .any, .any, .any, .any, .any, .any, .any, .any, .any, .any, .any, .any, .any, .any, .any, .any, .any, .any, .any, .any, .any, .any, .any, .any, .any, .any, .any, .any, .any, .any, .any, .any, .any, .any, .any, .any, .any, .any, .any, .any, .any, .any, .any, .any, .any, .any, .any, .any, .any, .any, .any, .any, .any, .any, .any, .any, .any, .any, .any, .any, .any, .any, .any, .any, .any, .any, .any, .any, .any, .any, .any, .any, .any, .any, .any, .any, .any, .any, .any, .any, .any, .any, .any, .any, .any, .any, .any, .any, .any, .any, .any, .any, .any, .any, .any, .any, .any, .any, .any, .any, .any, .any, .any, .any, .any, .any, .any, .any, .any, .any], [.at true (.as 3 [.int .i64 b0_0, .int .i64 b0_1, .int .i64 b0_2, .int .i64 b0_0, .int .i64 b0_4, .int .i64 b0_5, .int .i64 b0_6, .int .i64 b0_1, .int .i64 b0_5, .int .i64 b0_6, .int .i64 b0_4, .int .i64 b0_2]), .at true (.as 1 [.bool b1_0, .big b1_1, .big b1_2])]⟩
theorem run_sxI (N : Nat) (a : Int) (b : Int) (c : Int) (d : Int) (e : Int) (f : Int) : run ty tab_sxI an_sxI (N + 5) Try.f54 [.int .i64 a, .int .i64 b, .int .i64 c, .int .i64 d, .int .i64 e, .int .i64 f] []
    = (match decide ([a, b, c, d, e, f].length = 6 ∧ 6 < 2147483648) with
  | true => (match !(turnsB [a, b, c, d, e, f]) with
    | true => some (.tup [.a (.int .i64 0), .a (.int .i64 0), .a (.int .i64 0), .a (.bool false)], [])
    | false => (match !(totI a b c) with
      | true => some (.tup [.a (.int .i64 0), .a (.int .i64 0), .a (.int .i64 0), .a (.bool false)], [])
      | false => (match !(totI a e f) with
        | true => some (.tup [.a (.int .i64 0), .a (.int .i64 0), .a (.int .i64 0), .a (.bool false)], [])
        | false => (match !(totI d b f) with
          | true => some (.tup [.a (.int .i64 0), .a (.int .i64 0), .a (.int .i64 0), .a (.bool false)], [])
          | false => (match !(totI d e c) with
            | true => some (.tup [.a (.int .i64 0), .a (.int .i64 0), .a (.int .i64 0), .a (.bool false)], [])
            | false => lp_sxI17 (N + 5) (N + 5) (st_sxI17 (if (IntKind.i64.wrap (Int.tdiv (IntKind.i64.wrap ((IntKind.i64.wrap (d + e)) + c)) 2)) > (if (IntKind.i64.wrap (Int.tdiv (IntKind.i64.wrap ((IntKind.i64.wrap (d + b)) + f)) 2)) > (if (IntKind.i64.wrap (Int.tdiv (IntKind.i64.wrap ((IntKind.i64.wrap (a + e)) + f)) 2)) > (if (IntKind.i64.wrap (Int.tdiv (IntKind.i64.wrap ((IntKind.i64.wrap (a + b)) + c)) 2)) > 0 then IntKind.i64.wrap (Int.tdiv (IntKind.i64.wrap ((IntKind.i64.wrap (a + b)) + c)) 2) else 0) then IntKind.i64.wrap (Int.tdiv (IntKind.i64.wrap ((IntKind.i64.wrap (a + e)) + f)) 2) else if (IntKind.i64.wrap (Int.tdiv (IntKind.i64.wrap ((IntKind.i64.wrap (a + b)) + c)) 2)) > 0 then IntKind.i64.wrap (Int.tdiv (IntKind.i64.wrap ((IntKind.i64.wrap (a + b)) + c)) 2) else 0) then IntKind.i64.wrap (Int.tdiv (IntKind.i64.wrap ((IntKind.i64.wrap (d + b)) + f)) 2) else if (IntKind.i64.wrap (Int.tdiv (IntKind.i64.wrap ((IntKind.i64.wrap (a + e)) + f)) 2)) > (if (IntKind.i64.wrap (Int.tdiv (IntKind.i64.wrap ((IntKind.i64.wrap (a + b)) + c)) 2)) > 0 then IntKind.i64.wrap (Int.tdiv (IntKind.i64.wrap ((IntKind.i64.wrap (a + b)) + c)) 2) else 0) then IntKind.i64.wrap (Int.tdiv (IntKind.i64.wrap ((IntKind.i64.wrap (a + e)) + f)) 2) else if (IntKind.i64.wrap (Int.tdiv (IntKind.i64.wrap ((IntKind.i64.wrap (a + b)) + c)) 2)) > 0 then IntKind.i64.wrap (Int.tdiv (IntKind.i64.wrap ((IntKind.i64.wrap (a + b)) + c)) 2) else 0) then IntKind.i64.wrap (Int.tdiv (IntKind.i64.wrap ((IntKind.i64.wrap (d + e)) + c)) 2) else if (IntKind.i64.wrap (Int.tdiv (IntKind.i64.wrap ((IntKind.i64.wrap (d + b)) + f)) 2)) > (if (IntKind.i64.wrap (Int.tdiv (IntKind.i64.wrap ((IntKind.i64.wrap (a + e)) + f)) 2)) > (if (IntKind.i64.wrap (Int.tdiv (IntKind.i64.wrap ((IntKind.i64.wrap (a + b)) + c)) 2)) > 0 then IntKind.i64.wrap (Int.tdiv (IntKind.i64.wrap ((IntKind.i64.wrap (a + b)) + c)) 2) else 0) then IntKind.i64.wrap (Int.tdiv (IntKind.i64.wrap ((IntKind.i64.wrap (a + e)) + f)) 2) else if (IntKind.i64.wrap (Int.tdiv (IntKind.i64.wrap ((IntKind.i64.wrap (a + b)) + c)) 2)) > 0 then IntKind.i64.wrap (Int.tdiv (IntKind.i64.wrap ((IntKind.i64.wrap (a + b)) + c)) 2) else 0) then IntKind.i64.wrap (Int.tdiv (IntKind.i64.wrap ((IntKind.i64.wrap (d + b)) + f)) 2) else if (IntKind.i64.wrap (Int.tdiv (IntKind.i64.wrap ((IntKind.i64.wrap (a + e)) + f)) 2)) > (if (IntKind.i64.wrap (Int.tdiv (IntKind.i64.wrap ((IntKind.i64.wrap (a + b)) + c)) 2)) > 0 then IntKind.i64.wrap (Int.tdiv (IntKind.i64.wrap ((IntKind.i64.wrap (a + b)) + c)) 2) else 0) then IntKind.i64.wrap (Int.tdiv (IntKind.i64.wrap ((IntKind.i64.wrap (a + e)) + f)) 2) else if (IntKind.i64.wrap (Int.tdiv (IntKind.i64.wrap ((IntKind.i64.wrap (a + b)) + c)) 2)) > 0 then IntKind.i64.wrap (Int.tdiv (IntKind.i64.wrap ((IntKind.i64.wrap (a + b)) + c)) 2) else 0) a b c e f d (IntKind.i64.wrap (Int.tdiv (IntKind.i64.wrap ((IntKind.i64.wrap (a + b)) + c)) 2)) (IntKind.i64.wrap (Int.tdiv (IntKind.i64.wrap ((IntKind.i64.wrap (a + e)) + f)) 2)) (IntKind.i64.wrap (Int.tdiv (IntKind.i64.wrap ((IntKind.i64.wrap (d + b)) + f)) 2)) (IntKind.i64.wrap (Int.tdiv (IntKind.i64.wrap ((IntKind.i64.wrap (d + e)) + c)) 2)) (IntKind.i64.wrap (Int.tdiv (IntKind.i64.wrap ((IntKind.i64.wrap ((IntKind.i64.wrap (a + b)) + d)) + e)) 2)) (IntKind.i64.wrap (Int.tdiv (IntKind.i64.wrap ((IntKind.i64.wrap ((IntKind.i64.wrap (b + c)) + e)) + f)) 2)) (IntKind.i64.wrap (Int.tdiv (IntKind.i64.wrap ((IntKind.i64.wrap ((IntKind.i64.wrap (a + c)) + d)) + f)) 2)) false 0 0) (kt_sxI17 (N + 5) (kEnd Try.f54 0)))))))
  | false => none) := by
  kernel_rfl
theorem step_sxI17 {R : Type} (N M : Nat) (K : X → St → Option R) (t24 : Int) (b0_0 : Int) (b0_1 : Int) (b0_2 : Int) (b0_4 : Int) (b0_5 : Int) (b0_6 : Int) (b1_0 : Int) (b1_1 : Int) (b1_2 : Int) (b1_3 : Int) (b2_0 : Int) (b2_1 : Int) (b2_2 : Int) (b3_0 : Bool) (b3_1 : Nat) (b3_2 : Nat) : lp_sxI17 (N + 5) (M + 1) (st_sxI17 t24 b0_0 b0_1 b0_2 b0_4 b0_5 b0_6 b1_0 b1_1 b1_2 b1_3 b2_0 b2_1 b2_2 b3_0 b3_1 b3_2) K
    = (match decide ((t24 : Int) ≤ (mn3 b2_0 b2_1 b2_2)) with
  | true => (match facOk (IntKind.i64.wrap (t24 - b1_0)) with
    | true => (match lowB 1 && lowB (fct (IntKind.i64.wrap (t24 - b1_0))) with
      | true => (match nmO (α := Nat) (1 * (fct (IntKind.i64.wrap (t24 - b1_0)))) with
        | some w1 => (match facOk (IntKind.i64.wrap (t24 - b1_1)) with
          | true => (match lowB w1 && lowB (fct (IntKind.i64.wrap (t24 - b1_1))) with
            | true => (match nmO (α := Nat) (w1 * (fct (IntKind.i64.wrap (t24 - b1_1)))) with
              | some w2 => (match facOk (IntKind.i64.wrap (t24 - b1_2)) with
                | true => (match lowB w2 && lowB (fct (IntKind.i64.wrap (t24 - b1_2))) with
                  | true => (match nmO (α := Nat) (w2 * (fct (IntKind.i64.wrap (t24 - b1_2)))) with
                    | some w3 => (match facOk (IntKind.i64.wrap (t24 - b1_3)) with
                      | true => (match lowB w3 && lowB (fct (IntKind.i64.wrap (t24 - b1_3))) with
                        | true => (match nmO (α := Nat) (w3 * (fct (IntKind.i64.wrap (t24 - b1_3)))) with
                          | some w4 => (match facOk (IntKind.i64.wrap (b2_0 - t24)) with
                            | true => (match lowB w4 && lowB (fct (IntKind.i64.wrap (b2_0 - t24))) with
                              | true => (match nmO (α := Nat) (w4 * (fct (IntKind.i64.wrap (b2_0 - t24)))) with
                                | some w5 => (match facOk (IntKind.i64.wrap (b2_1 - t24)) with
                                  | true => (match lowB w5 && lowB (fct (IntKind.i64.wrap (b2_1 - t24))) with
                                    | true => (match nmO (α := Nat) (w5 * (fct (IntKind.i64.wrap (b2_1 - t24)))) with
                                      | some w6 => (match facOk (IntKind.i64.wrap (b2_2 - t24)) with
                                        | true => (match lowB w6 && lowB (fct (IntKind.i64.wrap (b2_2 - t24))) with
                                          | true => (match nmO (α := Nat) (w6 * (fct (IntKind.i64.wrap (b2_2 - t24)))) with
                                            | some w7 => (match facOk (IntKind.i64.wrap (t24 + 1)) with
                                              | true => (match lowB (fct (IntKind.i64.wrap (t24 + 1))) && lowB w7 && decide (0 < w7) with
                                                | true => (match nmO (α := Nat) ((fct (IntKind.i64.wrap (t24 + 1))) / (Nat.gcd (fct (IntKind.i64.wrap (t24 + 1))) w7)) with
                                                  | some w8 => (match nmO (α := Nat) (w7 / (Nat.gcd (fct (IntKind.i64.wrap (t24 + 1))) w7)) with
                                                    | some w9 => (match (Int.tmod t24 2) == 1 with
                                                      | true => (match lowB b3_1 && lowB (dn w9) with
                                                        | true => (match lowB w8 && lowB (dn b3_2) with
                                                          | true => (match lowB (b3_1 * (dn w9)) && lowB (w8 * (dn b3_2)) with
                                                            | true => (match lowB (dn b3_2) && lowB (dn w9) with
                                                              | true => (match lowB (((sgI ((!((b3_0 && (decide (0 < b3_1))) == false)) && (decide (0 < b3_1 * (dn w9)))) (b3_1 * (dn w9))) + (sgI ((!(((decide (0 < w8)) && (decide (0 < w8))) == false)) && (decide (0 < w8 * (dn b3_2)))) (w8 * (dn b3_2)))).natAbs) && lowB ((dn b3_2) * (dn w9)) && decide (0 < ((dn b3_2) * (dn w9))) with
                                                                | true => (match nmO (α := Bool) (((decide ((sgI ((!((b3_0 && (decide (0 < b3_1))) == false)) && (decide (0 < b3_1 * (dn w9)))) (b3_1 * (dn w9))) + (sgI ((!(((decide (0 < w8)) && (decide (0 < w8))) == false)) && (decide (0 < w8 * (dn b3_2)))) (w8 * (dn b3_2))) < 0)) != false) && (decide (0 < (((sgI ((!((b3_0 && (decide (0 < b3_1))) == false)) && (decide (0 < b3_1 * (dn w9)))) (b3_1 * (dn w9))) + (sgI ((!(((decide (0 < w8)) && (decide (0 < w8))) == false)) && (decide (0 < w8 * (dn b3_2)))) (w8 * (dn b3_2)))).natAbs) / (Nat.gcd (((sgI ((!((b3_0 && (decide (0 < b3_1))) == false)) && (decide (0 < b3_1 * (dn w9)))) (b3_1 * (dn w9))) + (sgI ((!(((decide (0 < w8)) && (decide (0 < w8))) == false)) && (decide (0 < w8 * (dn b3_2)))) (w8 * (dn b3_2)))).natAbs) ((dn b3_2) * (dn w9)))))) with
                                                                  | some w10 => (match nmO (α := Nat) ((((sgI ((!((b3_0 && (decide (0 < b3_1))) == false)) && (decide (0 < b3_1 * (dn w9)))) (b3_1 * (dn w9))) + (sgI ((!(((decide (0 < w8)) && (decide (0 < w8))) == false)) && (decide (0 < w8 * (dn b3_2)))) (w8 * (dn b3_2)))).natAbs) / (Nat.gcd (((sgI ((!((b3_0 && (decide (0 < b3_1))) == false)) && (decide (0 < b3_1 * (dn w9)))) (b3_1 * (dn w9))) + (sgI ((!(((decide (0 < w8)) && (decide (0 < w8))) == false)) && (decide (0 < w8 * (dn b3_2)))) (w8 * (dn b3_2)))).natAbs) ((dn b3_2) * (dn w9)))) with
                                                                    | some w11 => (match nmO (α := Nat) (((dn b3_2) * (dn w9)) / (Nat.gcd (((sgI ((!((b3_0 && (decide (0 < b3_1))) == false)) && (decide (0 < b3_1 * (dn w9)))) (b3_1 * (dn w9))) + (sgI ((!(((decide (0 < w8)) && (decide (0 < w8))) == false)) && (decide (0 < w8 * (dn b3_2)))) (w8 * (dn b3_2)))).natAbs) ((dn b3_2) * (dn w9)))) with
                                                                      | some w12 => lp_sxI17 (N + 5) M (st_sxI17 (IntKind.i64.wrap (t24 + 1)) b0_0 b0_1 b0_2 b0_4 b0_5 b0_6 b1_0 b1_1 b1_2 b1_3 b2_0 b2_1 b2_2 w10 w11 w12) K
                                                                      | none => none)
                                                                    | none => none)
                                                                  | none => none)
                                                                | false => none)
                                                              | false => none)
                                                            | false => none)
                                                          | false => none)
                                                        | false => none)
                                                      | false => (match lowB b3_1 && lowB (dn w9) with
                                                        | true => (match lowB w8 && lowB (dn b3_2) with
                                                          | true => (match lowB (b3_1 * (dn w9)) && lowB (w8 * (dn b3_2)) with
                                                            | true => (match lowB (dn b3_2) && lowB (dn w9) with
                                                              | true => (match lowB (((sgI ((!((b3_0 && (decide (0 < b3_1))) == false)) && (decide (0 < b3_1 * (dn w9)))) (b3_1 * (dn w9))) + (w8 * (dn b3_2) : Int)).natAbs) && lowB ((dn b3_2) * (dn w9)) && decide (0 < ((dn b3_2) * (dn w9))) with
                                                                | true => (match nmO (α := Bool) (((decide ((sgI ((!((b3_0 && (decide (0 < b3_1))) == false)) && (decide (0 < b3_1 * (dn w9)))) (b3_1 * (dn w9))) + (w8 * (dn b3_2) : Int) < 0)) != false) && (decide (0 < (((sgI ((!((b3_0 && (decide (0 < b3_1))) == false)) && (decide (0 < b3_1 * (dn w9)))) (b3_1 * (dn w9))) + (w8 * (dn b3_2) : Int)).natAbs) / (Nat.gcd (((sgI ((!((b3_0 && (decide (0 < b3_1))) == false)) && (decide (0 < b3_1 * (dn w9)))) (b3_1 * (dn w9))) + (w8 * (dn b3_2) : Int)).natAbs) ((dn b3_2) * (dn w9)))))) with
                                                                  | some w13 => (match nmO (α := Nat) ((((sgI ((!((b3_0 && (decide (0 < b3_1))) == false)) && (decide (0 < b3_1 * (dn w9)))) (b3_1 * (dn w9))) + (w8 * (dn b3_2) : Int)).natAbs) / (Nat.gcd (((sgI ((!((b3_0 && (decide (0 < b3_1))) == false)) && (decide (0 < b3_1 * (dn w9)))) (b3_1 * (dn w9))) + (w8 * (dn b3_2) : Int)).natAbs) ((dn b3_2) * (dn w9)))) with
                                                                    | some w14 => (match nmO (α := Nat) (((dn b3_2) * (dn w9)) / (Nat.gcd (((sgI ((!((b3_0 && (decide (0 < b3_1))) == false)) && (decide (0 < b3_1 * (dn w9)))) (b3_1 * (dn w9))) + (w8 * (dn b3_2) : Int)).natAbs) ((dn b3_2) * (dn w9)))) with
                                                                      | some w15 => lp_sxI17 (N + 5) M (st_sxI17 (IntKind.i64.wrap (t24 + 1)) b0_0 b0_1 b0_2 b0_4 b0_5 b0_6 b1_0 b1_1 b1_2 b1_3 b2_0 b2_1 b2_2 w13 w14 w15) K
                                                                      | none => none)
                                                                    | none => none)
                                                                  | none => none)
                                                                | false => none)
                                                              | false => none)
                                                            | false => none)
                                                          | false => none)
                                                        | false => none))
                                                    | none => none)
                                                  | none => none)
                                                | false => none)
                                              | false => none)
                                            | none => none)
                                          | false => none)
                                        | false => none)
                                      | none => none)
                                    | false => none)
                                  | false => none)
                                | none => none)
                              | false => none)
                            | false => none)
                          | none => none)
                        | false => none)
                      | false => none)
                    | none => none)
                  | false => none)
                | false => none)
              | none => none)
            | false => none)
          | false => none)
        | none => none)
      | false => none)
    | false => none)
  | false => K (.exit 2) (en_sxI17_0 b0_0 b0_1 b0_2 b0_4 b0_5 b0_6 b3_0 b3_1 b3_2)) := by
  kernel_rfl
theorem end_sxI17_0 (N : Nat) (b0_0 : Int) (b0_1 : Int) (b0_2 : Int) (b0_4 : Int) (b0_5 : Int) (b0_6 : Int) (b1_0 : Bool) (b1_1 : Nat) (b1_2 : Nat) : kt_sxI17 (N + 5) (kEnd Try.f54 0) (.exit 2) (en_sxI17_0 b0_0 b0_1 b0_2 b0_4 b0_5 b0_6 b1_0 b1_1 b1_2)
    = (match lowB b1_1 && lowB b1_1 with
  | true => (match lowB (dn b1_2) && lowB (dn b1_2) with
    | true => (match lowB (b1_1 * b1_1) && lowB ((dn b1_2) * (dn b1_2)) && decide (0 < ((dn b1_2) * (dn b1_2))) with
      | true => (match nmO (α := Bool) ((((!((b1_0 && (decide (0 < b1_1))) == (b1_0 && (decide (0 < b1_1))))) && (decide (0 < b1_1 * b1_1))) != false) && (decide (0 < (b1_1 * b1_1) / (Nat.gcd (b1_1 * b1_1) ((dn b1_2) * (dn b1_2)))))) with
        | some w1 => (match nmO (α := Nat) ((b1_1 * b1_1) / (Nat.gcd (b1_1 * b1_1) ((dn b1_2) * (dn b1_2)))) with
          | some w2 => (match nmO (α := Nat) (((dn b1_2) * (dn b1_2)) / (Nat.gcd (b1_1 * b1_1) ((dn b1_2) * (dn b1_2)))) with
            | some w3 => (match prOk 3 [IntKind.i64.wrap (Int.tdiv (IntKind.i64.wrap ((IntKind.i64.wrap (b0_0 + b0_1)) - b0_2)) 2), IntKind.i64.wrap (Int.tdiv (IntKind.i64.wrap ((IntKind.i64.wrap (b0_0 - b0_1)) + b0_2)) 2), IntKind.i64.wrap (Int.tdiv (IntKind.i64.wrap ((IntKind.i64.wrap (b0_1 + b0_2)) - b0_0)) 2)] with
              | true => (match nmO (α := Nat) (prF [IntKind.i64.wrap (Int.tdiv (IntKind.i64.wrap ((IntKind.i64.wrap (b0_0 + b0_1)) - b0_2)) 2), IntKind.i64.wrap (Int.tdiv (IntKind.i64.wrap ((IntKind.i64.wrap (b0_0 - b0_1)) + b0_2)) 2), IntKind.i64.wrap (Int.tdiv (IntKind.i64.wrap ((IntKind.i64.wrap (b0_1 + b0_2)) - b0_0)) 2)]) with
                | some w4 => (match facOk (IntKind.i64.wrap ((IntKind.i64.wrap (Int.tdiv (IntKind.i64.wrap ((IntKind.i64.wrap (b0_0 + b0_1)) + b0_2)) 2)) + 1)) with
                  | true => (match nmO (α := Nat) (fct (IntKind.i64.wrap ((IntKind.i64.wrap (Int.tdiv (IntKind.i64.wrap ((IntKind.i64.wrap (b0_0 + b0_1)) + b0_2)) 2)) + 1))) with
                    | some w5 => (match lowB w4 && lowB w5 && decide (0 < w5) with
                      | true => (match lowB w2 && lowB (w4 / (Nat.gcd w4 w5)) with
                        | true => (match lowB (dn w3) && lowB (dn (w5 / (Nat.gcd w4 w5))) with
                          | true => (match lowB (w2 * (w4 / (Nat.gcd w4 w5))) && lowB ((dn w3) * (dn (w5 / (Nat.gcd w4 w5)))) && decide (0 < ((dn w3) * (dn (w5 / (Nat.gcd w4 w5))))) with
                            | true => (match nmO (α := Bool) ((((!((w1 && (decide (0 < w2))) == false)) && (decide (0 < w2 * (w4 / (Nat.gcd w4 w5))))) != false) && (decide (0 < (w2 * (w4 / (Nat.gcd w4 w5))) / (Nat.gcd (w2 * (w4 / (Nat.gcd w4 w5))) ((dn w3) * (dn (w5 / (Nat.gcd w4 w5)))))))) with
                              | some w6 => (match nmO (α := Nat) ((w2 * (w4 / (Nat.gcd w4 w5))) / (Nat.gcd (w2 * (w4 / (Nat.gcd w4 w5))) ((dn w3) * (dn (w5 / (Nat.gcd w4 w5)))))) with
                                | some w7 => (match nmO (α := Nat) (((dn w3) * (dn (w5 / (Nat.gcd w4 w5)))) / (Nat.gcd (w2 * (w4 / (Nat.gcd w4 w5))) ((dn w3) * (dn (w5 / (Nat.gcd w4 w5)))))) with
                                  | some w8 => (match prOk 3 [IntKind.i64.wrap (Int.tdiv (IntKind.i64.wrap ((IntKind.i64.wrap (b0_0 + b0_4)) - b0_5)) 2), IntKind.i64.wrap (Int.tdiv (IntKind.i64.wrap ((IntKind.i64.wrap (b0_0 - b0_4)) + b0_5)) 2), IntKind.i64.wrap (Int.tdiv (IntKind.i64.wrap ((IntKind.i64.wrap (b0_4 + b0_5)) - b0_0)) 2)] with
                                    | true => (match nmO (α := Nat) (prF [IntKind.i64.wrap (Int.tdiv (IntKind.i64.wrap ((IntKind.i64.wrap (b0_0 + b0_4)) - b0_5)) 2), IntKind.i64.wrap (Int.tdiv (IntKind.i64.wrap ((IntKind.i64.wrap (b0_0 - b0_4)) + b0_5)) 2), IntKind.i64.wrap (Int.tdiv (IntKind.i64.wrap ((IntKind.i64.wrap (b0_4 + b0_5)) - b0_0)) 2)]) with
                                      | some w9 => (match facOk (IntKind.i64.wrap ((IntKind.i64.wrap (Int.tdiv (IntKind.i64.wrap ((IntKind.i64.wrap (b0_0 + b0_4)) + b0_5)) 2)) + 1)) with
                                        | true => (match nmO (α := Nat) (fct (IntKind.i64.wrap ((IntKind.i64.wrap (Int.tdiv (IntKind.i64.wrap ((IntKind.i64.wrap (b0_0 + b0_4)) + b0_5)) 2)) + 1))) with
                                          | some w10 => (match lowB w9 && lowB w10 && decide (0 < w10) with
                                            | true => (match lowB w7 && lowB (w9 / (Nat.gcd w9 w10)) with
                                              | true => (match lowB (dn w8) && lowB (dn (w10 / (Nat.gcd w9 w10))) with
                                                | true => (match lowB (w7 * (w9 / (Nat.gcd w9 w10))) && lowB ((dn w8) * (dn (w10 / (Nat.gcd w9 w10)))) && decide (0 < ((dn w8) * (dn (w10 / (Nat.gcd w9 w10))))) with
                                                  | true => (match nmO (α := Bool) ((((!((w6 && (decide (0 < w7))) == false)) && (decide (0 < w7 * (w9 / (Nat.gcd w9 w10))))) != false) && (decide (0 < (w7 * (w9 / (Nat.gcd w9 w10))) / (Nat.gcd (w7 * (w9 / (Nat.gcd w9 w10))) ((dn w8) * (dn (w10 / (Nat.gcd w9 w10)))))))) with
                                                    | some w11 => (match nmO (α := Nat) ((w7 * (w9 / (Nat.gcd w9 w10))) / (Nat.gcd (w7 * (w9 / (Nat.gcd w9 w10))) ((dn w8) * (dn (w10 / (Nat.gcd w9 w10)))))) with
                                                      | some w12 => (match nmO (α := Nat) (((dn w8) * (dn (w10 / (Nat.gcd w9 w10)))) / (Nat.gcd (w7 * (w9 / (Nat.gcd w9 w10))) ((dn w8) * (dn (w10 / (Nat.gcd w9 w10)))))) with
                                                        | some w13 => (match prOk 3 [IntKind.i64.wrap (Int.tdiv (IntKind.i64.wrap ((IntKind.i64.wrap (b0_6 + b0_1)) - b0_5)) 2), IntKind.i64.wrap (Int.tdiv (IntKind.i64.wrap ((IntKind.i64.wrap (b0_6 - b0_1)) + b0_5)) 2), IntKind.i64.wrap (Int.tdiv (IntKind.i64.wrap ((IntKind.i64.wrap (b0_1 + b0_5)) - b0_6)) 2)] with
                                                          | true => (match nmO (α := Nat) (prF [IntKind.i64.wrap (Int.tdiv (IntKind.i64.wrap ((IntKind.i64.wrap (b0_6 + b0_1)) - b0_5)) 2), IntKind.i64.wrap (Int.tdiv (IntKind.i64.wrap ((IntKind.i64.wrap (b0_6 - b0_1)) + b0_5)) 2), IntKind.i64.wrap (Int.tdiv (IntKind.i64.wrap ((IntKind.i64.wrap (b0_1 + b0_5)) - b0_6)) 2)]) with
                                                            | some w14 => (match facOk (IntKind.i64.wrap ((IntKind.i64.wrap (Int.tdiv (IntKind.i64.wrap ((IntKind.i64.wrap (b0_6 + b0_1)) + b0_5)) 2)) + 1)) with
                                                              | true => (match nmO (α := Nat) (fct (IntKind.i64.wrap ((IntKind.i64.wrap (Int.tdiv (IntKind.i64.wrap ((IntKind.i64.wrap (b0_6 + b0_1)) + b0_5)) 2)) + 1))) with
                                                                | some w15 => (match lowB w14 && lowB w15 && decide (0 < w15) with
                                                                  | true => (match lowB w12 && lowB (w14 / (Nat.gcd w14 w15)) with
                                                                    | true => (match lowB (dn w13) && lowB (dn (w15 / (Nat.gcd w14 w15))) with
                                                                      | true => (match lowB (w12 * (w14 / (Nat.gcd w14 w15))) && lowB ((dn w13) * (dn (w15 / (Nat.gcd w14 w15)))) && decide (0 < ((dn w13) * (dn (w15 / (Nat.gcd w14 w15))))) with
                                                                        | true => (match nmO (α := Bool) ((((!((w11 && (decide (0 < w12))) == false)) && (decide (0 < w12 * (w14 / (Nat.gcd w14 w15))))) != false) && (decide (0 < (w12 * (w14 / (Nat.gcd w14 w15))) / (Nat.gcd (w12 * (w14 / (Nat.gcd w14 w15))) ((dn w13) * (dn (w15 / (Nat.gcd w14 w15)))))))) with
                                                                          | some w16 => (match nmO (α := Nat) ((w12 * (w14 / (Nat.gcd w14 w15))) / (Nat.gcd (w12 * (w14 / (Nat.gcd w14 w15))) ((dn w13) * (dn (w15 / (Nat.gcd w14 w15)))))) with
                                                                            | some w17 => (match nmO (α := Nat) (((dn w13) * (dn (w15 / (Nat.gcd w14 w15)))) / (Nat.gcd (w12 * (w14 / (Nat.gcd w14 w15))) ((dn w13) * (dn (w15 / (Nat.gcd w14 w15)))))) with
                                                                              | some w18 => (match prOk 3 [IntKind.i64.wrap (Int.tdiv (IntKind.i64.wrap ((IntKind.i64.wrap (b0_6 + b0_4)) - b0_2)) 2), IntKind.i64.wrap (Int.tdiv (IntKind.i64.wrap ((IntKind.i64.wrap (b0_6 - b0_4)) + b0_2)) 2), IntKind.i64.wrap (Int.tdiv (IntKind.i64.wrap ((IntKind.i64.wrap (b0_4 + b0_2)) - b0_6)) 2)] with
                                                                                | true => (match nmO (α := Nat) (prF [IntKind.i64.wrap (Int.tdiv (IntKind.i64.wrap ((IntKind.i64.wrap (b0_6 + b0_4)) - b0_2)) 2), IntKind.i64.wrap (Int.tdiv (IntKind.i64.wrap ((IntKind.i64.wrap (b0_6 - b0_4)) + b0_2)) 2), IntKind.i64.wrap (Int.tdiv (IntKind.i64.wrap ((IntKind.i64.wrap (b0_4 + b0_2)) - b0_6)) 2)]) with
                                                                                  | some w19 => (match facOk (IntKind.i64.wrap ((IntKind.i64.wrap (Int.tdiv (IntKind.i64.wrap ((IntKind.i64.wrap (b0_6 + b0_4)) + b0_2)) 2)) + 1)) with
                                                                                    | true => (match nmO (α := Nat) (fct (IntKind.i64.wrap ((IntKind.i64.wrap (Int.tdiv (IntKind.i64.wrap ((IntKind.i64.wrap (b0_6 + b0_4)) + b0_2)) 2)) + 1))) with
                                                                                      | some w20 => (match lowB w19 && lowB w20 && decide (0 < w20) with
                                                                                        | true => (match lowB w17 && lowB (w19 / (Nat.gcd w19 w20)) with
                                                                                          | true => (match lowB (dn w18) && lowB (dn (w20 / (Nat.gcd w19 w20))) with
                                                                                            | true => (match lowB (w17 * (w19 / (Nat.gcd w19 w20))) && lowB ((dn w18) * (dn (w20 / (Nat.gcd w19 w20)))) && decide (0 < ((dn w18) * (dn (w20 / (Nat.gcd w19 w20))))) with
                                                                                              | true => (match nmO (α := Bool) ((((!((w16 && (decide (0 < w17))) == false)) && (decide (0 < w17 * (w19 / (Nat.gcd w19 w20))))) != false) && (decide (0 < (w17 * (w19 / (Nat.gcd w19 w20))) / (Nat.gcd (w17 * (w19 / (Nat.gcd w19 w20))) ((dn w18) * (dn (w20 / (Nat.gcd w19 w20)))))))) with
                                                                                                | some w21 => (match nmO (α := Nat) ((w17 * (w19 / (Nat.gcd w19 w20))) / (Nat.gcd (w17 * (w19 / (Nat.gcd w19 w20))) ((dn w18) * (dn (w20 / (Nat.gcd w19 w20)))))) with
                                                                                                  | some w22 => (match nmO (α := Nat) (((dn w18) * (dn (w20 / (Nat.gcd w19 w20)))) / (Nat.gcd (w17 * (w19 / (Nat.gcd w19 w20))) ((dn w18) * (dn (w20 / (Nat.gcd w19 w20)))))) with
                                                                                                    | some w23 => (match low63 w22 && low63 (dn w23) with
                                                                                                      | true => (match b1_0 with
                                                                                                        | true => some (.tup [.a (.int .i64 (-1)), .a (.int .i64 (sgI w21 w22)), .a (.int .i64 (dn w23 : Int)), .a (.bool true)], [])
                                                                                                        | false => (match decide ((((ndig b1_1 : Nat) : Int) : Int) > 0) with
                                                                                                          | true => some (.tup [.a (.int .i64 1), .a (.int .i64 (sgI w21 w22)), .a (.int .i64 (dn w23 : Int)), .a (.bool true)], [])
                                                                                                          | false => some (.tup [.a (.int .i64 0), .a (.int .i64 (sgI w21 w22)), .a (.int .i64 (dn w23 : Int)), .a (.bool true)], [])))
                                                                                                      | false => none)
                                                                                                    | none => none)
                                                                                                  | none => none)
                                                                                                | none => none)
                                                                                              | false => none)
                                                                                            | false => none)
                                                                                          | false => none)
                                                                                        | false => none)
                                                                                      | none => none)
                                                                                    | false => none)
                                                                                  | none => none)
                                                                                | false => none)
                                                                              | none => none)
                                                                            | none => none)
                                                                          | none => none)
                                                                        | false => none)
                                                                      | false => none)
                                                                    | false => none)
                                                                  | false => none)
                                                                | none => none)
                                                              | false => none)
                                                            | none => none)
                                                          | false => none)
                                                        | none => none)
                                                      | none => none)
                                                    | none => none)
                                                  | false => none)
                                                | false => none)
                                              | false => none)
                                            | false => none)
                                          | none => none)
                                        | false => none)
                                      | none => none)
                                    | false => none)
                                  | none => none)
                                | none => none)
                              | none => none)
                            | false => none)
                          | false => none)
                        | false => none)
                      | false => none)
                    | none => none)
                  | false => none)
                | none => none)
              | false => none)
            | none => none)
          | none => none)
        | none => none)
      | false => none)
    | false => none)
  | false => none) := by
  kernel_rfl

noncomputable def ce_sxI17_0 (N : Nat) (b0_0 : Int) (b0_1 : Int) (b0_2 : Int) (b0_4 : Int) (b0_5 : Int) (b0_6 : Int) (b1_0 : Bool) (b1_1 : Nat) (b1_2 : Nat) : Option (V × H) := (match lowB b1_1 && lowB b1_1 with
  | true => (match lowB (dn b1_2) && lowB (dn b1_2) with
    | true => (match lowB (b1_1 * b1_1) && lowB ((dn b1_2) * (dn b1_2)) && decide (0 < ((dn b1_2) * (dn b1_2))) with
      | true => (match nmO (α := Bool) ((((!((b1_0 && (decide (0 < b1_1))) == (b1_0 && (decide (0 < b1_1))))) && (decide (0 < b1_1 * b1_1))) != false) && (decide (0 < (b1_1 * b1_1) / (Nat.gcd (b1_1 * b1_1) ((dn b1_2) * (dn b1_2)))))) with
        | some w1 => (match nmO (α := Nat) ((b1_1 * b1_1) / (Nat.gcd (b1_1 * b1_1) ((dn b1_2) * (dn b1_2)))) with
          | some w2 => (match nmO (α := Nat) (((dn b1_2) * (dn b1_2)) / (Nat.gcd (b1_1 * b1_1) ((dn b1_2) * (dn b1_2)))) with
            | some w3 => (match prOk 3 [IntKind.i64.wrap (Int.tdiv (IntKind.i64.wrap ((IntKind.i64.wrap (b0_0 + b0_1)) - b0_2)) 2), IntKind.i64.wrap (Int.tdiv (IntKind.i64.wrap ((IntKind.i64.wrap (b0_0 - b0_1)) + b0_2)) 2), IntKind.i64.wrap (Int.tdiv (IntKind.i64.wrap ((IntKind.i64.wrap (b0_1 + b0_2)) - b0_0)) 2)] with
              | true => (match nmO (α := Nat) (prF [IntKind.i64.wrap (Int.tdiv (IntKind.i64.wrap ((IntKind.i64.wrap (b0_0 + b0_1)) - b0_2)) 2), IntKind.i64.wrap (Int.tdiv (IntKind.i64.wrap ((IntKind.i64.wrap (b0_0 - b0_1)) + b0_2)) 2), IntKind.i64.wrap (Int.tdiv (IntKind.i64.wrap ((IntKind.i64.wrap (b0_1 + b0_2)) - b0_0)) 2)]) with
                | some w4 => (match facOk (IntKind.i64.wrap ((IntKind.i64.wrap (Int.tdiv (IntKind.i64.wrap ((IntKind.i64.wrap (b0_0 + b0_1)) + b0_2)) 2)) + 1)) with
                  | true => (match nmO (α := Nat) (fct (IntKind.i64.wrap ((IntKind.i64.wrap (Int.tdiv (IntKind.i64.wrap ((IntKind.i64.wrap (b0_0 + b0_1)) + b0_2)) 2)) + 1))) with
                    | some w5 => (match lowB w4 && lowB w5 && decide (0 < w5) with
                      | true => (match lowB w2 && lowB (w4 / (Nat.gcd w4 w5)) with
                        | true => (match lowB (dn w3) && lowB (dn (w5 / (Nat.gcd w4 w5))) with
                          | true => (match lowB (w2 * (w4 / (Nat.gcd w4 w5))) && lowB ((dn w3) * (dn (w5 / (Nat.gcd w4 w5)))) && decide (0 < ((dn w3) * (dn (w5 / (Nat.gcd w4 w5))))) with
                            | true => (match nmO (α := Bool) ((((!((w1 && (decide (0 < w2))) == false)) && (decide (0 < w2 * (w4 / (Nat.gcd w4 w5))))) != false) && (decide (0 < (w2 * (w4 / (Nat.gcd w4 w5))) / (Nat.gcd (w2 * (w4 / (Nat.gcd w4 w5))) ((dn w3) * (dn (w5 / (Nat.gcd w4 w5)))))))) with
                              | some w6 => (match nmO (α := Nat) ((w2 * (w4 / (Nat.gcd w4 w5))) / (Nat.gcd (w2 * (w4 / (Nat.gcd w4 w5))) ((dn w3) * (dn (w5 / (Nat.gcd w4 w5)))))) with
                                | some w7 => (match nmO (α := Nat) (((dn w3) * (dn (w5 / (Nat.gcd w4 w5)))) / (Nat.gcd (w2 * (w4 / (Nat.gcd w4 w5))) ((dn w3) * (dn (w5 / (Nat.gcd w4 w5)))))) with
                                  | some w8 => (match prOk 3 [IntKind.i64.wrap (Int.tdiv (IntKind.i64.wrap ((IntKind.i64.wrap (b0_0 + b0_4)) - b0_5)) 2), IntKind.i64.wrap (Int.tdiv (IntKind.i64.wrap ((IntKind.i64.wrap (b0_0 - b0_4)) + b0_5)) 2), IntKind.i64.wrap (Int.tdiv (IntKind.i64.wrap ((IntKind.i64.wrap (b0_4 + b0_5)) - b0_0)) 2)] with
                                    | true => (match nmO (α := Nat) (prF [IntKind.i64.wrap (Int.tdiv (IntKind.i64.wrap ((IntKind.i64.wrap (b0_0 + b0_4)) - b0_5)) 2), IntKind.i64.wrap (Int.tdiv (IntKind.i64.wrap ((IntKind.i64.wrap (b0_0 - b0_4)) + b0_5)) 2), IntKind.i64.wrap (Int.tdiv (IntKind.i64.wrap ((IntKind.i64.wrap (b0_4 + b0_5)) - b0_0)) 2)]) with
                                      | some w9 => (match facOk (IntKind.i64.wrap ((IntKind.i64.wrap (Int.tdiv (IntKind.i64.wrap ((IntKind.i64.wrap (b0_0 + b0_4)) + b0_5)) 2)) + 1)) with
                                        | true => (match nmO (α := Nat) (fct (IntKind.i64.wrap ((IntKind.i64.wrap (Int.tdiv (IntKind.i64.wrap ((IntKind.i64.wrap (b0_0 + b0_4)) + b0_5)) 2)) + 1))) with
                                          | some w10 => (match lowB w9 && lowB w10 && decide (0 < w10) with
                                            | true => (match lowB w7 && lowB (w9 / (Nat.gcd w9 w10)) with
                                              | true => (match lowB (dn w8) && lowB (dn (w10 / (Nat.gcd w9 w10))) with
                                                | true => (match lowB (w7 * (w9 / (Nat.gcd w9 w10))) && lowB ((dn w8) * (dn (w10 / (Nat.gcd w9 w10)))) && decide (0 < ((dn w8) * (dn (w10 / (Nat.gcd w9 w10))))) with
                                                  | true => (match nmO (α := Bool) ((((!((w6 && (decide (0 < w7))) == false)) && (decide (0 < w7 * (w9 / (Nat.gcd w9 w10))))) != false) && (decide (0 < (w7 * (w9 / (Nat.gcd w9 w10))) / (Nat.gcd (w7 * (w9 / (Nat.gcd w9 w10))) ((dn w8) * (dn (w10 / (Nat.gcd w9 w10)))))))) with
                                                    | some w11 => (match nmO (α := Nat) ((w7 * (w9 / (Nat.gcd w9 w10))) / (Nat.gcd (w7 * (w9 / (Nat.gcd w9 w10))) ((dn w8) * (dn (w10 / (Nat.gcd w9 w10)))))) with
                                                      | some w12 => (match nmO (α := Nat) (((dn w8) * (dn (w10 / (Nat.gcd w9 w10)))) / (Nat.gcd (w7 * (w9 / (Nat.gcd w9 w10))) ((dn w8) * (dn (w10 / (Nat.gcd w9 w10)))))) with
                                                        | some w13 => (match prOk 3 [IntKind.i64.wrap (Int.tdiv (IntKind.i64.wrap ((IntKind.i64.wrap (b0_6 + b0_1)) - b0_5)) 2), IntKind.i64.wrap (Int.tdiv (IntKind.i64.wrap ((IntKind.i64.wrap (b0_6 - b0_1)) + b0_5)) 2), IntKind.i64.wrap (Int.tdiv (IntKind.i64.wrap ((IntKind.i64.wrap (b0_1 + b0_5)) - b0_6)) 2)] with
                                                          | true => (match nmO (α := Nat) (prF [IntKind.i64.wrap (Int.tdiv (IntKind.i64.wrap ((IntKind.i64.wrap (b0_6 + b0_1)) - b0_5)) 2), IntKind.i64.wrap (Int.tdiv (IntKind.i64.wrap ((IntKind.i64.wrap (b0_6 - b0_1)) + b0_5)) 2), IntKind.i64.wrap (Int.tdiv (IntKind.i64.wrap ((IntKind.i64.wrap (b0_1 + b0_5)) - b0_6)) 2)]) with
                                                            | some w14 => (match facOk (IntKind.i64.wrap ((IntKind.i64.wrap (Int.tdiv (IntKind.i64.wrap ((IntKind.i64.wrap (b0_6 + b0_1)) + b0_5)) 2)) + 1)) with
                                                              | true => (match nmO (α := Nat) (fct (IntKind.i64.wrap ((IntKind.i64.wrap (Int.tdiv (IntKind.i64.wrap ((IntKind.i64.wrap (b0_6 + b0_1)) + b0_5)) 2)) + 1))) with
                                                                | some w15 => (match lowB w14 && lowB w15 && decide (0 < w15) with
                                                                  | true => (match lowB w12 && lowB (w14 / (Nat.gcd w14 w15)) with
                                                                    | true => (match lowB (dn w13) && lowB (dn (w15 / (Nat.gcd w14 w15))) with
                                                                      | true => (match lowB (w12 * (w14 / (Nat.gcd w14 w15))) && lowB ((dn w13) * (dn (w15 / (Nat.gcd w14 w15)))) && decide (0 < ((dn w13) * (dn (w15 / (Nat.gcd w14 w15))))) with
                                                                        | true => (match nmO (α := Bool) ((((!((w11 && (decide (0 < w12))) == false)) && (decide (0 < w12 * (w14 / (Nat.gcd w14 w15))))) != false) && (decide (0 < (w12 * (w14 / (Nat.gcd w14 w15))) / (Nat.gcd (w12 * (w14 / (Nat.gcd w14 w15))) ((dn w13) * (dn (w15 / (Nat.gcd w14 w15)))))))) with
                                                                          | some w16 => (match nmO (α := Nat) ((w12 * (w14 / (Nat.gcd w14 w15))) / (Nat.gcd (w12 * (w14 / (Nat.gcd w14 w15))) ((dn w13) * (dn (w15 / (Nat.gcd w14 w15)))))) with
                                                                            | some w17 => (match nmO (α := Nat) (((dn w13) * (dn (w15 / (Nat.gcd w14 w15)))) / (Nat.gcd (w12 * (w14 / (Nat.gcd w14 w15))) ((dn w13) * (dn (w15 / (Nat.gcd w14 w15)))))) with
                                                                              | some w18 => (match prOk 3 [IntKind.i64.wrap (Int.tdiv (IntKind.i64.wrap ((IntKind.i64.wrap (b0_6 + b0_4)) - b0_2)) 2), IntKind.i64.wrap (Int.tdiv (IntKind.i64.wrap ((IntKind.i64.wrap (b0_6 - b0_4)) + b0_2)) 2), IntKind.i64.wrap (Int.tdiv (IntKind.i64.wrap ((IntKind.i64.wrap (b0_4 + b0_2)) - b0_6)) 2)] with
                                                                                | true => (match nmO (α := Nat) (prF [IntKind.i64.wrap (Int.tdiv (IntKind.i64.wrap ((IntKind.i64.wrap (b0_6 + b0_4)) - b0_2)) 2), IntKind.i64.wrap (Int.tdiv (IntKind.i64.wrap ((IntKind.i64.wrap (b0_6 - b0_4)) + b0_2)) 2), IntKind.i64.wrap (Int.tdiv (IntKind.i64.wrap ((IntKind.i64.wrap (b0_4 + b0_2)) - b0_6)) 2)]) with
                                                                                  | some w19 => (match facOk (IntKind.i64.wrap ((IntKind.i64.wrap (Int.tdiv (IntKind.i64.wrap ((IntKind.i64.wrap (b0_6 + b0_4)) + b0_2)) 2)) + 1)) with
                                                                                    | true => (match nmO (α := Nat) (fct (IntKind.i64.wrap ((IntKind.i64.wrap (Int.tdiv (IntKind.i64.wrap ((IntKind.i64.wrap (b0_6 + b0_4)) + b0_2)) 2)) + 1))) with
                                                                                      | some w20 => (match lowB w19 && lowB w20 && decide (0 < w20) with
                                                                                        | true => (match lowB w17 && lowB (w19 / (Nat.gcd w19 w20)) with
                                                                                          | true => (match lowB (dn w18) && lowB (dn (w20 / (Nat.gcd w19 w20))) with
                                                                                            | true => (match lowB (w17 * (w19 / (Nat.gcd w19 w20))) && lowB ((dn w18) * (dn (w20 / (Nat.gcd w19 w20)))) && decide (0 < ((dn w18) * (dn (w20 / (Nat.gcd w19 w20))))) with
                                                                                              | true => (match nmO (α := Bool) ((((!((w16 && (decide (0 < w17))) == false)) && (decide (0 < w17 * (w19 / (Nat.gcd w19 w20))))) != false) && (decide (0 < (w17 * (w19 / (Nat.gcd w19 w20))) / (Nat.gcd (w17 * (w19 / (Nat.gcd w19 w20))) ((dn w18) * (dn (w20 / (Nat.gcd w19 w20)))))))) with
                                                                                                | some w21 => (match nmO (α := Nat) ((w17 * (w19 / (Nat.gcd w19 w20))) / (Nat.gcd (w17 * (w19 / (Nat.gcd w19 w20))) ((dn w18) * (dn (w20 / (Nat.gcd w19 w20)))))) with
                                                                                                  | some w22 => (match nmO (α := Nat) (((dn w18) * (dn (w20 / (Nat.gcd w19 w20)))) / (Nat.gcd (w17 * (w19 / (Nat.gcd w19 w20))) ((dn w18) * (dn (w20 / (Nat.gcd w19 w20)))))) with
                                                                                                    | some w23 => (match low63 w22 && low63 (dn w23) with
                                                                                                      | true => (match b1_0 with
                                                                                                        | true => some (.tup [.a (.int .i64 (-1)), .a (.int .i64 (sgI w21 w22)), .a (.int .i64 (dn w23 : Int)), .a (.bool true)], [])
                                                                                                        | false => (match decide ((((ndig b1_1 : Nat) : Int) : Int) > 0) with
                                                                                                          | true => some (.tup [.a (.int .i64 1), .a (.int .i64 (sgI w21 w22)), .a (.int .i64 (dn w23 : Int)), .a (.bool true)], [])
                                                                                                          | false => some (.tup [.a (.int .i64 0), .a (.int .i64 (sgI w21 w22)), .a (.int .i64 (dn w23 : Int)), .a (.bool true)], [])))
                                                                                                      | false => none)
                                                                                                    | none => none)
                                                                                                  | none => none)
                                                                                                | none => none)
                                                                                              | false => none)
                                                                                            | false => none)
                                                                                          | false => none)
                                                                                        | false => none)
                                                                                      | none => none)
                                                                                    | false => none)
                                                                                  | none => none)
                                                                                | false => none)
                                                                              | none => none)
                                                                            | none => none)
                                                                          | none => none)
                                                                        | false => none)
                                                                      | false => none)
                                                                    | false => none)
                                                                  | false => none)
                                                                | none => none)
                                                              | false => none)
                                                            | none => none)
                                                          | false => none)
                                                        | none => none)
                                                      | none => none)
                                                    | none => none)
                                                  | false => none)
                                                | false => none)
                                              | false => none)
                                            | false => none)
                                          | none => none)
                                        | false => none)
                                      | none => none)
                                    | false => none)
                                  | none => none)
                                | none => none)
                              | none => none)
                            | false => none)
                          | false => none)
                        | false => none)
                      | false => none)
                    | none => none)
                  | false => none)
                | none => none)
              | false => none)
            | none => none)
          | none => none)
        | none => none)
      | false => none)
    | false => none)
  | false => none)
noncomputable def mr_sxI17 (N : Nat) (k0 : Int → Int → Int → Int → Int → Int → Bool → Nat → Nat → Option (V × H)) (M : Nat) : Int → Int → Int → Int → Int → Int → Int → Int → Int → Int → Int → Int → Int → Int → Bool → Nat → Nat → Option (V × H) := Nat.rec (motive := fun _ => Int → Int → Int → Int → Int → Int → Int → Int → Int → Int → Int → Int → Int → Int → Bool → Nat → Nat → Option (V × H)) (fun (_ : Int) (_ : Int) (_ : Int) (_ : Int) (_ : Int) (_ : Int) (_ : Int) (_ : Int) (_ : Int) (_ : Int) (_ : Int) (_ : Int) (_ : Int) (_ : Int) (_ : Bool) (_ : Nat) (_ : Nat) => none) (fun _ rq => fun (t24 : Int) (b0_0 : Int) (b0_1 : Int) (b0_2 : Int) (b0_4 : Int) (b0_5 : Int) (b0_6 : Int) (b1_0 : Int) (b1_1 : Int) (b1_2 : Int) (b1_3 : Int) (b2_0 : Int) (b2_1 : Int) (b2_2 : Int) (b3_0 : Bool) (b3_1 : Nat) (b3_2 : Nat) => (match decide ((t24 : Int) ≤ (mn3 b2_0 b2_1 b2_2)) with
  | true => (match facOk (IntKind.i64.wrap (t24 - b1_0)) with
    | true => (match lowB 1 && lowB (fct (IntKind.i64.wrap (t24 - b1_0))) with
      | true => (match nmO (α := Nat) (1 * (fct (IntKind.i64.wrap (t24 - b1_0)))) with
        | some w1 => (match facOk (IntKind.i64.wrap (t24 - b1_1)) with
          | true => (match lowB w1 && lowB (fct (IntKind.i64.wrap (t24 - b1_1))) with
            | true => (match nmO (α := Nat) (w1 * (fct (IntKind.i64.wrap (t24 - b1_1)))) with
              | some w2 => (match facOk (IntKind.i64.wrap (t24 - b1_2)) with
                | true => (match lowB w2 && lowB (fct (IntKind.i64.wrap (t24 - b1_2))) with
                  | true => (match nmO (α := Nat) (w2 * (fct (IntKind.i64.wrap (t24 - b1_2)))) with
                    | some w3 => (match facOk (IntKind.i64.wrap (t24 - b1_3)) with
                      | true => (match lowB w3 && lowB (fct (IntKind.i64.wrap (t24 - b1_3))) with
                        | true => (match nmO (α := Nat) (w3 * (fct (IntKind.i64.wrap (t24 - b1_3)))) with
                          | some w4 => (match facOk (IntKind.i64.wrap (b2_0 - t24)) with
                            | true => (match lowB w4 && lowB (fct (IntKind.i64.wrap (b2_0 - t24))) with
                              | true => (match nmO (α := Nat) (w4 * (fct (IntKind.i64.wrap (b2_0 - t24)))) with
                                | some w5 => (match facOk (IntKind.i64.wrap (b2_1 - t24)) with
                                  | true => (match lowB w5 && lowB (fct (IntKind.i64.wrap (b2_1 - t24))) with
                                    | true => (match nmO (α := Nat) (w5 * (fct (IntKind.i64.wrap (b2_1 - t24)))) with
                                      | some w6 => (match facOk (IntKind.i64.wrap (b2_2 - t24)) with
                                        | true => (match lowB w6 && lowB (fct (IntKind.i64.wrap (b2_2 - t24))) with
                                          | true => (match nmO (α := Nat) (w6 * (fct (IntKind.i64.wrap (b2_2 - t24)))) with
                                            | some w7 => (match facOk (IntKind.i64.wrap (t24 + 1)) with
                                              | true => (match lowB (fct (IntKind.i64.wrap (t24 + 1))) && lowB w7 && decide (0 < w7) with
                                                | true => (match nmO (α := Nat) ((fct (IntKind.i64.wrap (t24 + 1))) / (Nat.gcd (fct (IntKind.i64.wrap (t24 + 1))) w7)) with
                                                  | some w8 => (match nmO (α := Nat) (w7 / (Nat.gcd (fct (IntKind.i64.wrap (t24 + 1))) w7)) with
                                                    | some w9 => (match (Int.tmod t24 2) == 1 with
                                                      | true => (match lowB b3_1 && lowB (dn w9) with
                                                        | true => (match lowB w8 && lowB (dn b3_2) with
                                                          | true => (match lowB (b3_1 * (dn w9)) && lowB (w8 * (dn b3_2)) with
                                                            | true => (match lowB (dn b3_2) && lowB (dn w9) with
                                                              | true => (match lowB (((sgI ((!((b3_0 && (decide (0 < b3_1))) == false)) && (decide (0 < b3_1 * (dn w9)))) (b3_1 * (dn w9))) + (sgI ((!(((decide (0 < w8)) && (decide (0 < w8))) == false)) && (decide (0 < w8 * (dn b3_2)))) (w8 * (dn b3_2)))).natAbs) && lowB ((dn b3_2) * (dn w9)) && decide (0 < ((dn b3_2) * (dn w9))) with
                                                                | true => (match nmO (α := Bool) (((decide ((sgI ((!((b3_0 && (decide (0 < b3_1))) == false)) && (decide (0 < b3_1 * (dn w9)))) (b3_1 * (dn w9))) + (sgI ((!(((decide (0 < w8)) && (decide (0 < w8))) == false)) && (decide (0 < w8 * (dn b3_2)))) (w8 * (dn b3_2))) < 0)) != false) && (decide (0 < (((sgI ((!((b3_0 && (decide (0 < b3_1))) == false)) && (decide (0 < b3_1 * (dn w9)))) (b3_1 * (dn w9))) + (sgI ((!(((decide (0 < w8)) && (decide (0 < w8))) == false)) && (decide (0 < w8 * (dn b3_2)))) (w8 * (dn b3_2)))).natAbs) / (Nat.gcd (((sgI ((!((b3_0 && (decide (0 < b3_1))) == false)) && (decide (0 < b3_1 * (dn w9)))) (b3_1 * (dn w9))) + (sgI ((!(((decide (0 < w8)) && (decide (0 < w8))) == false)) && (decide (0 < w8 * (dn b3_2)))) (w8 * (dn b3_2)))).natAbs) ((dn b3_2) * (dn w9)))))) with
                                                                  | some w10 => (match nmO (α := Nat) ((((sgI ((!((b3_0 && (decide (0 < b3_1))) == false)) && (decide (0 < b3_1 * (dn w9)))) (b3_1 * (dn w9))) + (sgI ((!(((decide (0 < w8)) && (decide (0 < w8))) == false)) && (decide (0 < w8 * (dn b3_2)))) (w8 * (dn b3_2)))).natAbs) / (Nat.gcd (((sgI ((!((b3_0 && (decide (0 < b3_1))) == false)) && (decide (0 < b3_1 * (dn w9)))) (b3_1 * (dn w9))) + (sgI ((!(((decide (0 < w8)) && (decide (0 < w8))) == false)) && (decide (0 < w8 * (dn b3_2)))) (w8 * (dn b3_2)))).natAbs) ((dn b3_2) * (dn w9)))) with
                                                                    | some w11 => (match nmO (α := Nat) (((dn b3_2) * (dn w9)) / (Nat.gcd (((sgI ((!((b3_0 && (decide (0 < b3_1))) == false)) && (decide (0 < b3_1 * (dn w9)))) (b3_1 * (dn w9))) + (sgI ((!(((decide (0 < w8)) && (decide (0 < w8))) == false)) && (decide (0 < w8 * (dn b3_2)))) (w8 * (dn b3_2)))).natAbs) ((dn b3_2) * (dn w9)))) with
                                                                      | some w12 => (rq (IntKind.i64.wrap (t24 + 1)) b0_0 b0_1 b0_2 b0_4 b0_5 b0_6 b1_0 b1_1 b1_2 b1_3 b2_0 b2_1 b2_2 w10 w11 w12)
                                                                      | none => none)
                                                                    | none => none)
                                                                  | none => none)
                                                                | false => none)
                                                              | false => none)
                                                            | false => none)
                                                          | false => none)
                                                        | false => none)
                                                      | false => (match lowB b3_1 && lowB (dn w9) with
                                                        | true => (match lowB w8 && lowB (dn b3_2) with
                                                          | true => (match lowB (b3_1 * (dn w9)) && lowB (w8 * (dn b3_2)) with
                                                            | true => (match lowB (dn b3_2) && lowB (dn w9) with
                                                              | true => (match lowB (((sgI ((!((b3_0 && (decide (0 < b3_1))) == false)) && (decide (0 < b3_1 * (dn w9)))) (b3_1 * (dn w9))) + (w8 * (dn b3_2) : Int)).natAbs) && lowB ((dn b3_2) * (dn w9)) && decide (0 < ((dn b3_2) * (dn w9))) with
                                                                | true => (match nmO (α := Bool) (((decide ((sgI ((!((b3_0 && (decide (0 < b3_1))) == false)) && (decide (0 < b3_1 * (dn w9)))) (b3_1 * (dn w9))) + (w8 * (dn b3_2) : Int) < 0)) != false) && (decide (0 < (((sgI ((!((b3_0 && (decide (0 < b3_1))) == false)) && (decide (0 < b3_1 * (dn w9)))) (b3_1 * (dn w9))) + (w8 * (dn b3_2) : Int)).natAbs) / (Nat.gcd (((sgI ((!((b3_0 && (decide (0 < b3_1))) == false)) && (decide (0 < b3_1 * (dn w9)))) (b3_1 * (dn w9))) + (w8 * (dn b3_2) : Int)).natAbs) ((dn b3_2) * (dn w9)))))) with
                                                                  | some w13 => (match nmO (α := Nat) ((((sgI ((!((b3_0 && (decide (0 < b3_1))) == false)) && (decide (0 < b3_1 * (dn w9)))) (b3_1 * (dn w9))) + (w8 * (dn b3_2) : Int)).natAbs) / (Nat.gcd (((sgI ((!((b3_0 && (decide (0 < b3_1))) == false)) && (decide (0 < b3_1 * (dn w9)))) (b3_1 * (dn w9))) + (w8 * (dn b3_2) : Int)).natAbs) ((dn b3_2) * (dn w9)))) with
                                                                    | some w14 => (match nmO (α := Nat) (((dn b3_2) * (dn w9)) / (Nat.gcd (((sgI ((!((b3_0 && (decide (0 < b3_1))) == false)) && (decide (0 < b3_1 * (dn w9)))) (b3_1 * (dn w9))) + (w8 * (dn b3_2) : Int)).natAbs) ((dn b3_2) * (dn w9)))) with
                                                                      | some w15 => (rq (IntKind.i64.wrap (t24 + 1)) b0_0 b0_1 b0_2 b0_4 b0_5 b0_6 b1_0 b1_1 b1_2 b1_3 b2_0 b2_1 b2_2 w13 w14 w15)
                                                                      | none => none)
                                                                    | none => none)
                                                                  | none => none)
                                                                | false => none)
                                                              | false => none)
                                                            | false => none)
                                                          | false => none)
                                                        | false => none))
                                                    | none => none)
                                                  | none => none)
                                                | false => none)
                                              | false => none)
                                            | none => none)
                                          | false => none)
                                        | false => none)
                                      | none => none)
                                    | false => none)
                                  | false => none)
                                | none => none)
                              | false => none)
                            | false => none)
                          | none => none)
                        | false => none)
                      | false => none)
                    | none => none)
                  | false => none)
                | false => none)
              | none => none)
            | false => none)
          | false => none)
        | none => none)
      | false => none)
    | false => none)
  | false => (k0 b0_0 b0_1 b0_2 b0_4 b0_5 b0_6 b3_0 b3_1 b3_2))) M
theorem mrs_sxI17 (N : Nat) (k0 : Int → Int → Int → Int → Int → Int → Bool → Nat → Nat → Option (V × H)) (M : Nat) (t24 : Int) (b0_0 : Int) (b0_1 : Int) (b0_2 : Int) (b0_4 : Int) (b0_5 : Int) (b0_6 : Int) (b1_0 : Int) (b1_1 : Int) (b1_2 : Int) (b1_3 : Int) (b2_0 : Int) (b2_1 : Int) (b2_2 : Int) (b3_0 : Bool) (b3_1 : Nat) (b3_2 : Nat) : mr_sxI17 N k0 (M + 1) t24 b0_0 b0_1 b0_2 b0_4 b0_5 b0_6 b1_0 b1_1 b1_2 b1_3 b2_0 b2_1 b2_2 b3_0 b3_1 b3_2 = (match decide ((t24 : Int) ≤ (mn3 b2_0 b2_1 b2_2)) with
  | true => (match facOk (IntKind.i64.wrap (t24 - b1_0)) with
    | true => (match lowB 1 && lowB (fct (IntKind.i64.wrap (t24 - b1_0))) with
      | true => (match nmO (α := Nat) (1 * (fct (IntKind.i64.wrap (t24 - b1_0)))) with
        | some w1 => (match facOk (IntKind.i64.wrap (t24 - b1_1)) with
          | true => (match lowB w1 && lowB (fct (IntKind.i64.wrap (t24 - b1_1))) with
            | true => (match nmO (α := Nat) (w1 * (fct (IntKind.i64.wrap (t24 - b1_1)))) with
              | some w2 => (match facOk (IntKind.i64.wrap (t24 - b1_2)) with
                | true => (match lowB w2 && lowB (fct (IntKind.i64.wrap (t24 - b1_2))) with
                  | true => (match nmO (α := Nat) (w2 * (fct (IntKind.i64.wrap (t24 - b1_2)))) with
                    | some w3 => (match facOk (IntKind.i64.wrap (t24 - b1_3)) with
                      | true => (match lowB w3 && lowB (fct (IntKind.i64.wrap (t24 - b1_3))) with
                        | true => (match nmO (α := Nat) (w3 * (fct (IntKind.i64.wrap (t24 - b1_3)))) with
                          | some w4 => (match facOk (IntKind.i64.wrap (b2_0 - t24)) with
                            | true => (match lowB w4 && lowB (fct (IntKind.i64.wrap (b2_0 - t24))) with
                              | true => (match nmO (α := Nat) (w4 * (fct (IntKind.i64.wrap (b2_0 - t24)))) with
                                | some w5 => (match facOk (IntKind.i64.wrap (b2_1 - t24)) with
                                  | true => (match lowB w5 && lowB (fct (IntKind.i64.wrap (b2_1 - t24))) with
                                    | true => (match nmO (α := Nat) (w5 * (fct (IntKind.i64.wrap (b2_1 - t24)))) with
                                      | some w6 => (match facOk (IntKind.i64.wrap (b2_2 - t24)) with
                                        | true => (match lowB w6 && lowB (fct (IntKind.i64.wrap (b2_2 - t24))) with
                                          | true => (match nmO (α := Nat) (w6 * (fct (IntKind.i64.wrap (b2_2 - t24)))) with
                                            | some w7 => (match facOk (IntKind.i64.wrap (t24 + 1)) with
                                              | true => (match lowB (fct (IntKind.i64.wrap (t24 + 1))) && lowB w7 && decide (0 < w7) with
                                                | true => (match nmO (α := Nat) ((fct (IntKind.i64.wrap (t24 + 1))) / (Nat.gcd (fct (IntKind.i64.wrap (t24 + 1))) w7)) with
                                                  | some w8 => (match nmO (α := Nat) (w7 / (Nat.gcd (fct (IntKind.i64.wrap (t24 + 1))) w7)) with
                                                    | some w9 => (match (Int.tmod t24 2) == 1 with
                                                      | true => (match lowB b3_1 && lowB (dn w9) with
                                                        | true => (match lowB w8 && lowB (dn b3_2) with
                                                          | true => (match lowB (b3_1 * (dn w9)) && lowB (w8 * (dn b3_2)) with
                                                            | true => (match lowB (dn b3_2) && lowB (dn w9) with
                                                              | true => (match lowB (((sgI ((!((b3_0 && (decide (0 < b3_1))) == false)) && (decide (0 < b3_1 * (dn w9)))) (b3_1 * (dn w9))) + (sgI ((!(((decide (0 < w8)) && (decide (0 < w8))) == false)) && (decide (0 < w8 * (dn b3_2)))) (w8 * (dn b3_2)))).natAbs) && lowB ((dn b3_2) * (dn w9)) && decide (0 < ((dn b3_2) * (dn w9))) with
                                                                | true => (match nmO (α := Bool) (((decide ((sgI ((!((b3_0 && (decide (0 < b3_1))) == false)) && (decide (0 < b3_1 * (dn w9)))) (b3_1 * (dn w9))) + (sgI ((!(((decide (0 < w8)) && (decide (0 < w8))) == false)) && (decide (0 < w8 * (dn b3_2)))) (w8 * (dn b3_2))) < 0)) != false) && (decide (0 < (((sgI ((!((b3_0 && (decide (0 < b3_1))) == false)) && (decide (0 < b3_1 * (dn w9)))) (b3_1 * (dn w9))) + (sgI ((!(((decide (0 < w8)) && (decide (0 < w8))) == false)) && (decide (0 < w8 * (dn b3_2)))) (w8 * (dn b3_2)))).natAbs) / (Nat.gcd (((sgI ((!((b3_0 && (decide (0 < b3_1))) == false)) && (decide (0 < b3_1 * (dn w9)))) (b3_1 * (dn w9))) + (sgI ((!(((decide (0 < w8)) && (decide (0 < w8))) == false)) && (decide (0 < w8 * (dn b3_2)))) (w8 * (dn b3_2)))).natAbs) ((dn b3_2) * (dn w9)))))) with
                                                                  | some w10 => (match nmO (α := Nat) ((((sgI ((!((b3_0 && (decide (0 < b3_1))) == false)) && (decide (0 < b3_1 * (dn w9)))) (b3_1 * (dn w9))) + (sgI ((!(((decide (0 < w8)) && (decide (0 < w8))) == false)) && (decide (0 < w8 * (dn b3_2)))) (w8 * (dn b3_2)))).natAbs) / (Nat.gcd (((sgI ((!((b3_0 && (decide (0 < b3_1))) == false)) && (decide (0 < b3_1 * (dn w9)))) (b3_1 * (dn w9))) + (sgI ((!(((decide (0 < w8)) && (decide (0 < w8))) == false)) && (decide (0 < w8 * (dn b3_2)))) (w8 * (dn b3_2)))).natAbs) ((dn b3_2) * (dn w9)))) with
                                                                    | some w11 => (match nmO (α := Nat) (((dn b3_2) * (dn w9)) / (Nat.gcd (((sgI ((!((b3_0 && (decide (0 < b3_1))) == false)) && (decide (0 < b3_1 * (dn w9)))) (b3_1 * (dn w9))) + (sgI ((!(((decide (0 < w8)) && (decide (0 < w8))) == false)) && (decide (0 < w8 * (dn b3_2)))) (w8 * (dn b3_2)))).natAbs) ((dn b3_2) * (dn w9)))) with
                                                                      | some w12 => (mr_sxI17 N k0 M (IntKind.i64.wrap (t24 + 1)) b0_0 b0_1 b0_2 b0_4 b0_5 b0_6 b1_0 b1_1 b1_2 b1_3 b2_0 b2_1 b2_2 w10 w11 w12)
                                                                      | none => none)
                                                                    | none => none)
                                                                  | none => none)
                                                                | false => none)
                                                              | false => none)
                                                            | false => none)
                                                          | false => none)
                                                        | false => none)
                                                      | false => (match lowB b3_1 && lowB (dn w9) with
                                                        | true => (match lowB w8 && lowB (dn b3_2) with
                                                          | true => (match lowB (b3_1 * (dn w9)) && lowB (w8 * (dn b3_2)) with
                                                            | true => (match lowB (dn b3_2) && lowB (dn w9) with
                                                              | true => (match lowB (((sgI ((!((b3_0 && (decide (0 < b3_1))) == false)) && (decide (0 < b3_1 * (dn w9)))) (b3_1 * (dn w9))) + (w8 * (dn b3_2) : Int)).natAbs) && lowB ((dn b3_2) * (dn w9)) && decide (0 < ((dn b3_2) * (dn w9))) with
                                                                | true => (match nmO (α := Bool) (((decide ((sgI ((!((b3_0 && (decide (0 < b3_1))) == false)) && (decide (0 < b3_1 * (dn w9)))) (b3_1 * (dn w9))) + (w8 * (dn b3_2) : Int) < 0)) != false) && (decide (0 < (((sgI ((!((b3_0 && (decide (0 < b3_1))) == false)) && (decide (0 < b3_1 * (dn w9)))) (b3_1 * (dn w9))) + (w8 * (dn b3_2) : Int)).natAbs) / (Nat.gcd (((sgI ((!((b3_0 && (decide (0 < b3_1))) == false)) && (decide (0 < b3_1 * (dn w9)))) (b3_1 * (dn w9))) + (w8 * (dn b3_2) : Int)).natAbs) ((dn b3_2) * (dn w9)))))) with
                                                                  | some w13 => (match nmO (α := Nat) ((((sgI ((!((b3_0 && (decide (0 < b3_1))) == false)) && (decide (0 < b3_1 * (dn w9)))) (b3_1 * (dn w9))) + (w8 * (dn b3_2) : Int)).natAbs) / (Nat.gcd (((sgI ((!((b3_0 && (decide (0 < b3_1))) == false)) && (decide (0 < b3_1 * (dn w9)))) (b3_1 * (dn w9))) + (w8 * (dn b3_2) : Int)).natAbs) ((dn b3_2) * (dn w9)))) with
                                                                    | some w14 => (match nmO (α := Nat) (((dn b3_2) * (dn w9)) / (Nat.gcd (((sgI ((!((b3_0 && (decide (0 < b3_1))) == false)) && (decide (0 < b3_1 * (dn w9)))) (b3_1 * (dn w9))) + (w8 * (dn b3_2) : Int)).natAbs) ((dn b3_2) * (dn w9)))) with
                                                                      | some w15 => (mr_sxI17 N k0 M (IntKind.i64.wrap (t24 + 1)) b0_0 b0_1 b0_2 b0_4 b0_5 b0_6 b1_0 b1_1 b1_2 b1_3 b2_0 b2_1 b2_2 w13 w14 w15)
                                                                      | none => none)
                                                                    | none => none)
                                                                  | none => none)
                                                                | false => none)
                                                              | false => none)
                                                            | false => none)
                                                          | false => none)
                                                        | false => none))
                                                    | none => none)
                                                  | none => none)
                                                | false => none)
                                              | false => none)
                                            | none => none)
                                          | false => none)
                                        | false => none)
                                      | none => none)
                                    | false => none)
                                  | false => none)
                                | none => none)
                              | false => none)
                            | false => none)
                          | none => none)
                        | false => none)
                      | false => none)
                    | none => none)
                  | false => none)
                | false => none)
              | none => none)
            | false => none)
          | false => none)
        | none => none)
      | false => none)
    | false => none)
  | false => (k0 b0_0 b0_1 b0_2 b0_4 b0_5 b0_6 b3_0 b3_1 b3_2)) := by kernel_rfl
theorem H_sxI17 (N : Nat) : ∀ (M : Nat) (t24 : Int) (b0_0 : Int) (b0_1 : Int) (b0_2 : Int) (b0_4 : Int) (b0_5 : Int) (b0_6 : Int) (b1_0 : Int) (b1_1 : Int) (b1_2 : Int) (b1_3 : Int) (b2_0 : Int) (b2_1 : Int) (b2_2 : Int) (b3_0 : Bool) (b3_1 : Nat) (b3_2 : Nat), lp_sxI17 (N + 5) M (st_sxI17 t24 b0_0 b0_1 b0_2 b0_4 b0_5 b0_6 b1_0 b1_1 b1_2 b1_3 b2_0 b2_1 b2_2 b3_0 b3_1 b3_2) (kt_sxI17 (N + 5) (kEnd Try.f54 0)) = mr_sxI17 (N + 5) (ce_sxI17_0 (N + 5)) M t24 b0_0 b0_1 b0_2 b0_4 b0_5 b0_6 b1_0 b1_1 b1_2 b1_3 b2_0 b2_1 b2_2 b3_0 b3_1 b3_2 := by
  have he0 : ∀ (b0_0 : Int) (b0_1 : Int) (b0_2 : Int) (b0_4 : Int) (b0_5 : Int) (b0_6 : Int) (b1_0 : Bool) (b1_1 : Nat) (b1_2 : Nat), kt_sxI17 (N + 5) (kEnd Try.f54 0) (.exit 2) (en_sxI17_0 b0_0 b0_1 b0_2 b0_4 b0_5 b0_6 b1_0 b1_1 b1_2) = ce_sxI17_0 (N + 5) b0_0 b0_1 b0_2 b0_4 b0_5 b0_6 b1_0 b1_1 b1_2 := by
    intro b0_0 b0_1 b0_2 b0_4 b0_5 b0_6 b1_0 b1_1 b1_2
    rw [end_sxI17_0]
    unfold ce_sxI17_0
    first | simp only [] | rfl
  intro M
  induction M with
  | zero => intros; rfl
  | succ M ih =>
    intro t24 b0_0 b0_1 b0_2 b0_4 b0_5 b0_6 b1_0 b1_1 b1_2 b1_3 b2_0 b2_1 b2_2 b3_0 b3_1 b3_2
    rw [step_sxI17]
    rw [mrs_sxI17]
    first | simp only [ih, he0] | rfl
noncomputable def md_sxI (N : Nat) (a : Int) (b : Int) (c : Int) (d : Int) (e : Int) (f : Int) : Option (V × H) := (match decide ([a, b, c, d, e, f].length = 6 ∧ 6 < 2147483648) with
  | true => (match !(turnsB [a, b, c, d, e, f]) with
    | true => some (.tup [.a (.int .i64 0), .a (.int .i64 0), .a (.int .i64 0), .a (.bool false)], [])
    | false => (match !(totI a b c) with
      | true => some (.tup [.a (.int .i64 0), .a (.int .i64 0), .a (.int .i64 0), .a (.bool false)], [])
      | false => (match !(totI a e f) with
        | true => some (.tup [.a (.int .i64 0), .a (.int .i64 0), .a (.int .i64 0), .a (.bool false)], [])
        | false => (match !(totI d b f) with
          | true => some (.tup [.a (.int .i64 0), .a (.int .i64 0), .a (.int .i64 0), .a (.bool false)], [])
          | false => (match !(totI d e c) with
            | true => some (.tup [.a (.int .i64 0), .a (.int .i64 0), .a (.int .i64 0), .a (.bool false)], [])
            | false => (mr_sxI17 N (ce_sxI17_0 N) N (if (IntKind.i64.wrap (Int.tdiv (IntKind.i64.wrap ((IntKind.i64.wrap (d + e)) + c)) 2)) > (if (IntKind.i64.wrap (Int.tdiv (IntKind.i64.wrap ((IntKind.i64.wrap (d + b)) + f)) 2)) > (if (IntKind.i64.wrap (Int.tdiv (IntKind.i64.wrap ((IntKind.i64.wrap (a + e)) + f)) 2)) > (if (IntKind.i64.wrap (Int.tdiv (IntKind.i64.wrap ((IntKind.i64.wrap (a + b)) + c)) 2)) > 0 then IntKind.i64.wrap (Int.tdiv (IntKind.i64.wrap ((IntKind.i64.wrap (a + b)) + c)) 2) else 0) then IntKind.i64.wrap (Int.tdiv (IntKind.i64.wrap ((IntKind.i64.wrap (a + e)) + f)) 2) else if (IntKind.i64.wrap (Int.tdiv (IntKind.i64.wrap ((IntKind.i64.wrap (a + b)) + c)) 2)) > 0 then IntKind.i64.wrap (Int.tdiv (IntKind.i64.wrap ((IntKind.i64.wrap (a + b)) + c)) 2) else 0) then IntKind.i64.wrap (Int.tdiv (IntKind.i64.wrap ((IntKind.i64.wrap (d + b)) + f)) 2) else if (IntKind.i64.wrap (Int.tdiv (IntKind.i64.wrap ((IntKind.i64.wrap (a + e)) + f)) 2)) > (if (IntKind.i64.wrap (Int.tdiv (IntKind.i64.wrap ((IntKind.i64.wrap (a + b)) + c)) 2)) > 0 then IntKind.i64.wrap (Int.tdiv (IntKind.i64.wrap ((IntKind.i64.wrap (a + b)) + c)) 2) else 0) then IntKind.i64.wrap (Int.tdiv (IntKind.i64.wrap ((IntKind.i64.wrap (a + e)) + f)) 2) else if (IntKind.i64.wrap (Int.tdiv (IntKind.i64.wrap ((IntKind.i64.wrap (a + b)) + c)) 2)) > 0 then IntKind.i64.wrap (Int.tdiv (IntKind.i64.wrap ((IntKind.i64.wrap (a + b)) + c)) 2) else 0) then IntKind.i64.wrap (Int.tdiv (IntKind.i64.wrap ((IntKind.i64.wrap (d + e)) + c)) 2) else if (IntKind.i64.wrap (Int.tdiv (IntKind.i64.wrap ((IntKind.i64.wrap (d + b)) + f)) 2)) > (if (IntKind.i64.wrap (Int.tdiv (IntKind.i64.wrap ((IntKind.i64.wrap (a + e)) + f)) 2)) > (if (IntKind.i64.wrap (Int.tdiv (IntKind.i64.wrap ((IntKind.i64.wrap (a + b)) + c)) 2)) > 0 then IntKind.i64.wrap (Int.tdiv (IntKind.i64.wrap ((IntKind.i64.wrap (a + b)) + c)) 2) else 0) then IntKind.i64.wrap (Int.tdiv (IntKind.i64.wrap ((IntKind.i64.wrap (a + e)) + f)) 2) else if (IntKind.i64.wrap (Int.tdiv (IntKind.i64.wrap ((IntKind.i64.wrap (a + b)) + c)) 2)) > 0 then IntKind.i64.wrap (Int.tdiv (IntKind.i64.wrap ((IntKind.i64.wrap (a + b)) + c)) 2) else 0) then IntKind.i64.wrap (Int.tdiv (IntKind.i64.wrap ((IntKind.i64.wrap (d + b)) + f)) 2) else if (IntKind.i64.wrap (Int.tdiv (IntKind.i64.wrap ((IntKind.i64.wrap (a + e)) + f)) 2)) > (if (IntKind.i64.wrap (Int.tdiv (IntKind.i64.wrap ((IntKind.i64.wrap (a + b)) + c)) 2)) > 0 then IntKind.i64.wrap (Int.tdiv (IntKind.i64.wrap ((IntKind.i64.wrap (a + b)) + c)) 2) else 0) then IntKind.i64.wrap (Int.tdiv (IntKind.i64.wrap ((IntKind.i64.wrap (a + e)) + f)) 2) else if (IntKind.i64.wrap (Int.tdiv (IntKind.i64.wrap ((IntKind.i64.wrap (a + b)) + c)) 2)) > 0 then IntKind.i64.wrap (Int.tdiv (IntKind.i64.wrap ((IntKind.i64.wrap (a + b)) + c)) 2) else 0) a b c e f d (IntKind.i64.wrap (Int.tdiv (IntKind.i64.wrap ((IntKind.i64.wrap (a + b)) + c)) 2)) (IntKind.i64.wrap (Int.tdiv (IntKind.i64.wrap ((IntKind.i64.wrap (a + e)) + f)) 2)) (IntKind.i64.wrap (Int.tdiv (IntKind.i64.wrap ((IntKind.i64.wrap (d + b)) + f)) 2)) (IntKind.i64.wrap (Int.tdiv (IntKind.i64.wrap ((IntKind.i64.wrap (d + e)) + c)) 2)) (IntKind.i64.wrap (Int.tdiv (IntKind.i64.wrap ((IntKind.i64.wrap ((IntKind.i64.wrap (a + b)) + d)) + e)) 2)) (IntKind.i64.wrap (Int.tdiv (IntKind.i64.wrap ((IntKind.i64.wrap ((IntKind.i64.wrap (b + c)) + e)) + f)) 2)) (IntKind.i64.wrap (Int.tdiv (IntKind.i64.wrap ((IntKind.i64.wrap ((IntKind.i64.wrap (a + c)) + d)) + f)) 2)) false 0 0))))))
  | false => none)
theorem mdl_sxI (N : Nat) (a : Int) (b : Int) (c : Int) (d : Int) (e : Int) (f : Int) : run ty tab_sxI an_sxI (N + 5) Try.f54 [.int .i64 a, .int .i64 b, .int .i64 c, .int .i64 d, .int .i64 e, .int .i64 f] [] = md_sxI (N + 5) a b c d e f := by
  rw [run_sxI]
  unfold md_sxI
  first | simp only [H_sxI17 N (N + 5)] | rfl

def an_sxS : Ann := ⟨fun r => if r = 2 then some ([0, 1, 2, 3, 4, 5, 42, 43, 44], [0, 1, 2, 3, 4, 5, 12, 13, 14, 15]) else if r = 13 then some ([0, 1, 2, 3, 4, 5, 18, 19, 20, 129, 130], [0, 1, 2, 3, 4, 5, 18, 19, 20]) else if r = 19 then some ([0, 1, 2, 3, 4, 5, 18, 19, 20, 22, 144, 145], [0, 1, 2, 3, 4, 5, 18, 19, 20, 22]) else if r = 25 then some ([0, 1, 2, 3, 4, 5, 18, 19, 22, 24, 25], [0, 1, 2, 3, 4, 5, 24]) else if r = 30 then some ([0, 1, 2, 3, 4, 5, 18, 19, 22, 24, 25, 26, 168, 169], [0, 1, 2, 3, 4, 5, 18, 19, 22, 24, 25, 26]) else if r = 35 then some ([0, 1, 2, 3, 4, 5, 18, 19, 22, 24, 25, 26, 182, 183], [0, 1, 2, 3, 4, 5, 18, 19, 22, 24, 25, 26]) else if r = 41 then some ([0, 1, 2, 3, 4, 5, 18, 19, 22, 24, 25, 26, 29, 195], [0, 1, 2, 3, 4, 5, 18, 19, 22, 24, 25, 29]) else if r = 44 then some ([0, 1, 2, 3, 4, 5, 18, 19, 22, 24, 25, 26, 29, 30, 31, 195], [0, 1, 2, 3, 4, 5, 18, 19, 22, 24, 25, 26, 29, 195]) else none, fun _ _ => .quiet⟩
def tab_sxS : Fns := tabT [(111, gT gis6), (109, gT gtotS), (113, gT gmxI), (114, gT gmnI), (115, gFl), (116, gTh), (117, gSq)]
theorem tabok_sxS : ∀ f, FnT Try.prog f (tab_sxS f) := (tabT_cons (k := 111) ok_l03Is (tabT_cons (k := 109) ok_l03Total (tabT_cons (k := 113) ok_mx (tabT_cons (k := 114) ok_mn (tabT_cons (k := 115) ok_fl (tabT_cons (k := 116) ok_th (tabT_cons (k := 117) ok_sq tabT_nil)))))))
def st_sxS2 (t0 : Int) (t1 : Int) (t2 : Int) (t3 : Int) (t4 : Int) (t5 : Int) (t44 : Int) : St := ⟨[.int .i64 t0, .int .i64 t1, .int .i64 t2, .int .i64 t3, .int .i64 t4, .int .i64 t5, .any, .any, .any, .any, .any, .any, .any, .any, .any, .any, .any, .any, .any, .any, .any, .any, .any, .any, .any, .any, .any, .any, .any, .any, .any, .any, .any, .any, .any, .any, .any, .any, .any, .any, .any, .any, .sl 0 0 6, .int .i64 6, .int .i64 t44, .any, .any, .any, .any, .any, .any, .any, .any, .any, .any, .any, .any, .any, .any, .any, .any, .any, .any, .any, .any, .any, .any, .any, .any, .any, .any, .any, .any, .any, .any, .any, .any, .any, .any, .any, .any, .any, .any, .any, .any, .any, .any, .any, .any, .any, .any, .any, .any, .any, .any, .any, .any, .any, .any, .any, .any, .any, .any, .any, .any, .any, .any, .any, .any, .any, .any, .any, .any, .any, .any, .any, .any, .any, .any, .any, .any, .any, .any, .any, .any, .any, .any, .any, .any, .any, .any, .any, .any, .any, .any, .any, .any, .any, .any, .any, .any, .any, .any, .any, .any, .any, .any, .any, .any, .any, .any, .any, .any, .any, .any, .any, .any, .any, .any, .any, .any, .any, .any, .any, .any, .any, .any, .any, .any, .any, .any, .any, .any, .any, .any, .any, .any, .any, .any, .any, .any, .any, .any, .any, .any, .any, .any, .any, .any, .any, .any, .any, .any, .any, .any, .any, .any, .any, .any, .any, .any, .any, .any, .any, .any, .any, .any, .any, .any, .any, .any, .any, .any, .any, .any, .any, .any, .any, .any, .any, .any, .any, .any, .any, .any, .any, .any, .any, .any, .any, .any, .any, .any, .any, .any, .any, .any, .any, .any, .any, .any, .any, .any, .any, .any, .any, .any, .any, .any, .any, .any, .any], [.at true (.int .i64 [t0, t1, t2, t3, t4, t5])]⟩
abbrev kp_sxS2 : Option (List Nat × List Nat) := some ([0, 1, 2, 3, 4, 5, 42, 43, 44], [0, 1, 2, 3, 4, 5, 12, 13, 14, 15])
noncomputable def lp_sxS2 {R : Type} (N M : Nat) (s : St) (K : X → St → Option R) : Option R := loopH 0 kp_sxS2 (fun st K => exec ty tab_sxS an_sxS N 0 (atOf [true, false, true, false, false] Try.f53) st K) M s K
noncomputable def bk_sxS2 {R : Type} (N M : Nat) (K : X → St → Option R) : X → St → Option R := fun x st => match x with | .norm => tidyK 0 (kp_sxS2.map (·.1)) st fun st => lp_sxS2 N M st K | x => tidyK 0 (kp_sxS2.map (·.2)) st fun st => K x st
noncomputable def kt_sxS2 {R : Type} (N : Nat) (K : X → St → Option R) : X → St → Option R := kBlkR 0 (kSeqR tab_sxS an_sxS N 0 (atOf [true, true] Try.f53) (K))
def st_sxS13 (t0 : Int) (t1 : Int) (t2 : Int) (t3 : Int) (t4 : Int) (t5 : Int) (t20 : Int) (t130 : Int) (b0_0 : Int) (b0_1 : Int) (b0_2 : Int) (b0_3 : Int) (b1_0 : Int) (b1_1 : Int) (b1_2 : Int) : St := ⟨[.int .i64 t0, .int .i64 t1, .int .i64 t2, .int .i64 t3, .int .i64 t4, .int .i64 t5, .any, .any, .any, .any, .any, .any, .any, .any, .any, .any, .any, .any, .sl 0 0 4, .sl 1 0 3, .int .i64 t20, .any, .any, .any, .any, .any, .any, .any, .any, .any, .any, .any, .any, .any, .any, .any, .any, .any, .any, .any, .any, .any, .any, .any, .any, .any, .any, .any, .any, .any, .any, .any, .any, .any, .any, .any, .any, .any, .any, .any, .any, .any, .any, .any, .any, .any, .any, .any, .any, .any, .any, .any, .any, .any, .any, .any, .any, .any, .any, .any, .any, .any, .any, .any, .any, .any, .any, .any, .any, .any, .any, .any, .any, .any, .any, .any, .any, .any, .any, .any, .any, .any, .any, .any, .any, .any, .any, .any, .any, .any, .any, .any, .any, .any, .any, .any, .any, .any, .any, .any, .any, .any, .any, .any, .any, .any, .any, .any, .any, .int .i64 4, .int .i64 t130, .any, .any, .any, .any, .any, .any, .any, .any, .any, .any, .any, .any, .any, .any, .any, .any, .any, .any, .any, .any, .any, .any, .any, .any, .any, .any, .any, .any, .any, .any, .any, .any, .any, .any, .any, .any, .any, .any, .any, .any, .any, .any, .any, .any, .any, .any, .any, .any, .any, .any, .any, .any, .any, .any, .any, .any, .any, .any, .any, .any, .any, .any, .any, .any, .any, .any, .any, .any, .any, .any, .any, .any, .any, .any, .any, .any, .any, .any, .any, .any, .any, .any, .any, .any, .any, .any, .any, .any, .any, .any, .any, .any, .any, .any, .any, .any, .any, .any, .any, .any, .any, .any, .any, .any, .any, .any, .any, .any, .any, .any, .any, .any, .any, .any, .any, .any, .any, .any, .any, .any, .any], [.at true (.int .i64 [b0_0, b0_1, b0_2, b0_3]), .at true (.int .i64 [b1_0, b1_1, b1_2])]⟩
abbrev kp_sxS13 : Option (List Nat × List Nat) := some ([0, 1, 2, 3, 4, 5, 18, 19, 20, 129, 130], [0, 1, 2, 3, 4, 5, 18, 19, 20])
noncomputable def lp_sxS13 {R : Type} (N M : Nat) (s : St) (K : X → St → Option R) : Option R := loopH 0 kp_sxS13 (fun st K => exec ty tab_sxS an_sxS N 0 (atOf [true, true, true, true, true, true, false, true, false, false] Try.f53) st K) M s K
noncomputable def bk_sxS13 {R : Type} (N M : Nat) (K : X → St → Option R) : X → St → Option R := fun x st => match x with | .norm => tidyK 0 (kp_sxS13.map (·.1)) st fun st => lp_sxS13 N M st K | x => tidyK 0 (kp_sxS13.map (·.2)) st fun st => K x st
noncomputable def kt_sxS13 {R : Type} (N : Nat) (K : X → St → Option R) : X → St → Option R := kBlkR 2 (kSeqR tab_sxS an_sxS N 0 (atOf [true, true, true, true, true, true, true] Try.f53) (K))
def st_sxS19 (t0 : Int) (t1 : Int) (t2 : Int) (t3 : Int) (t4 : Int) (t5 : Int) (t20 : Int) (t22 : Int) (t145 : Int) (b0_0 : Int) (b0_1 : Int) (b0_2 : Int) (b0_3 : Int) (b1_0 : Int) (b1_1 : Int) (b1_2 : Int) : St := ⟨[.int .i64 t0, .int .i64 t1, .int .i64 t2, .int .i64 t3, .int .i64 t4, .int .i64 t5, .any, .any, .any, .any, .any, .any, .any, .any, .any, .any, .any, .any, .sl 0 0 4, .sl 1 0 3, .int .i64 t20, .any, .int .i64 t22, .any, .any, .any, .any, .any, .any, .any, .any, .any, .any, .any, .any, .any, .any, .any, .any, .any, .any, .any, .any, .any, .any, .any, .any, .any, .any, .any, .any, .any, .any, .any, .any, .any, .any, .any, .any, .any, .any, .any, .any, .any, .any, .any, .any, .any, .any, .any, .any, .any, .any, .any, .any, .any, .any, .any, .any, .any, .any, .any, .any, .any, .any, .any, .any, .any, .any, .any, .any, .any, .any, .any, .any, .any, .any, .any, .any, .any, .any, .any, .any, .any, .any, .any, .any, .any, .any, .any, .any, .any, .any, .any, .any, .any, .any, .any, .any, .any, .any, .any, .any, .any, .any, .any, .any, .any, .any, .any, .any, .any, .any, .any, .any, .any, .any, .any, .any, .any, .any, .any, .any, .any, .int .i64 3, .int .i64 t145, .any, .any, .any, .any, .any, .any, .any, .any, .any, .any, .any, .any, .any, .any, .any, .any, .any, .any, .any, .any, .any, .any, .any, .any, .any, .any, .any, .any, .any, .any, .any, .any, .any, .any, .any, .any, .any, .any, .any, .any, .any, .any, .any, .any, .any, .any, .any, .any, .any, .any, .any, .any, .any, .any, .any, .any, .any, .any, .any, .any, .any, .any, .any, .any, .any, .any, .any, .any, .any, .any, .any, .any, .any, .any, .any, .any, .any, .any, .any, .any, .any, .any, .any, .any, .any, .any, .any, .any, .any, .any, .any, .any, .any, .any, .any, .any, .any, .any, .any, .any, .any, .any, .any, .any, .any, .any], [.at true (.int .i64 [b0_0, b0_1, b0_2, b0_3]), .at true (.int .i64 [b1_0, b1_1, b1_2])]⟩
abbrev kp_sxS19 : Option (List Nat × List Nat) := some ([0, 1, 2, 3, 4, 5, 18, 19, 20, 22, 144, 145], [0, 1, 2, 3, 4, 5, 18, 19, 20, 22])
noncomputable def lp_sxS19 {R : Type} (N M : Nat) (s : St) (K : X → St → Option R) : Option R := loopH 0 kp_sxS19 (fun st K => exec ty tab_sxS an_sxS N 0 (atOf [true, true, true, true, true, true, true, true, false, true, false, false] Try.f53) st K) M s K
noncomputable def bk_sxS19 {R : Type} (N M : Nat) (K : X → St → Option R) : X → St → Option R := fun x st => match x with | .norm => tidyK 0 (kp_sxS19.map (·.1)) st fun st => lp_sxS19 N M st K | x => tidyK 0 (kp_sxS19.map (·.2)) st fun st => K x st
noncomputable def kt_sxS19 {R : Type} (N : Nat) (K : X → St → Option R) : X → St → Option R := kBlkR 4 (kSeqR tab_sxS an_sxS N 0 (atOf [true, true, true, true, true, true, true, true, true] Try.f53) (K))
def st_sxS25 (t0 : Int) (t1 : Int) (t2 : Int) (t3 : Int) (t4 : Int) (t5 : Int) (t22 : Int) (t24 : Int) (t25 : Int) (b0_0 : Int) (b0_1 : Int) (b0_2 : Int) (b0_3 : Int) (b1_0 : Int) (b1_1 : Int) (b1_2 : Int) : St := ⟨[.int .i64 t0, .int .i64 t1, .int .i64 t2, .int .i64 t3, .int .i64 t4, .int .i64 t5, .any, .any, .any, .any, .any, .any, .any, .any, .any, .any, .any, .any, .sl 0 0 4, .sl 1 0 3, .any, .any, .int .i64 t22, .any, .int .i64 t24, .int .i64 t25, .any, .any, .any, .any, .any, .any, .any, .any, .any, .any, .any, .any, .any, .any, .any, .any, .any, .any, .any, .any, .any, .any, .any, .any, .any, .any, .any, .any, .any, .any, .any, .any, .any, .any, .any, .any, .any, .any, .any, .any, .any, .any, .any, .any, .any, .any, .any, .any, .any, .any, .any, .any, .any, .any, .any, .any, .any, .any, .any, .any, .any, .any, .any, .any, .any, .any, .any, .any, .any, .any, .any, .any, .any, .any, .any, .any, .any, .any, .any, .any, .any, .any, .any, .any, .any, .any, .any, .any, .any, .any, .any, .any, .any, .any, .any, .any, .any, .any, .any, .any, .any, .any, .any, .any, .any, .any, .any, .any, .any, .any, .any, .any, .any, .any, .any, .any, .any, .any, .any, .any, .any, .any, .any, .any, .any, .any, .any, .any, .any, .any, .any, .any, .any, .any, .any, .any, .any, .any, .any, .any, .any, .any, .any, .any, .any, .any, .any, .any, .any, .any, .any, .any, .any, .any, .any, .any, .any, .any, .any, .any, .any, .any, .any, .any, .any, .any, .any, .any, .any, .any, .any, .any, .any, .any, .any, .any, .any, .any, .any, .any, .any, .any, .any, .any, .any, .any, .any, .any, .any, .any, .any, .any, .any, .any, .any, .any, .any, .any, .any, .any, .any, .any, .any, .any, .any, .any, .any, .any, .any, .any, .any, .any, .any, .any, .any, .any, .any, .any, .any, .any, .any, .any, .any, .any, .any, .any], [.at true (.int .i64 [b0_0, b0_1, b0_2, b0_3]), .at true (.int .i64 [b1_0, b1_1, b1_2])]⟩
abbrev kp_sxS25 : Option (List Nat × List Nat) := some ([0, 1, 2, 3, 4, 5, 18, 19, 22, 24, 25], [0, 1, 2, 3, 4, 5, 24])
noncomputable def lp_sxS25 {R : Type} (N M : Nat) (s : St) (K : X → St → Option R) : Option R := loopH 0 kp_sxS25 (fun st K => exec ty tab_sxS an_sxS N 0 (atOf [true, true, true, true, true, true, true, true, true, true, false, true, false, false] Try.f53) st K) M s K
noncomputable def bk_sxS25 {R : Type} (N M : Nat) (K : X → St → Option R) : X → St → Option R := fun x st => match x with | .norm => tidyK 0 (kp_sxS25.map (·.1)) st fun st => lp_sxS25 N M st K | x => tidyK 0 (kp_sxS25.map (·.2)) st fun st => K x st
noncomputable def kt_sxS25 {R : Type} (N : Nat) (K : X → St → Option R) : X → St → Option R := kBlkR 6 (kSeqR tab_sxS an_sxS N 0 (atOf [true, true, true, true, true, true, true, true, true, true, true] Try.f53) (K))
def st_sxS30 (t0 : Int) (t1 : Int) (t2 : Int) (t3 : Int) (t4 : Int) (t5 : Int) (t22 : Int) (t24 : Int) (t25 : Int) (t169 : Int) (b0_0 : Int) (b0_1 : Int) (b0_2 : Int) (b0_3 : Int) (b1_0 : Int) (b1_1 : Int) (b1_2 : Int) (l2 : List Int) : St := ⟨[.int .i64 t0, .int .i64 t1, .int .i64 t2, .int .i64 t3, .int .i64 t4, .int .i64 t5, .any, .any, .any, .any, .any, .any, .any, .any, .any, .any, .any, .any, .sl 0 0 4, .sl 1 0 3, .any, .any, .int .i64 t22, .any, .int .i64 t24, .int .i64 t25, .ptr 2 0, .any, .any, .any, .any, .any, .any, .any, .any, .any, .any, .any, .any, .any, .any, .any, .any, .any, .any, .any, .any, .any, .any, .any, .any, .any, .any, .any, .any, .any, .any, .any, .any, .any, .any, .any, .any, .any, .any, .any, .any, .any, .any, .any, .any, .any, .any, .any, .any, .any, .any, .any, .any, .any, .any, .any, .any, .any, .any, .any, .any, .any, .any, .any, .any, .any, .any, .any, .any, .any, .any, .any, .any, .any, .any, .any, .any, .any, .any, .any, .any, .any, .any, .any, .any, .any, .any, .any, .any, .any, .any, .any, .any, .any, .any, .any, .any, .any, .any, .any, .any, .any, .any, .any, .any, .any, .any, .any, .any, .any, .any, .any, .any, .any, .any, .any, .any, .any, .any, .any, .any, .any, .any, .any, .any, .any, .any, .any, .any, .any, .any, .any, .any, .any, .any, .any, .any, .any, .any, .any, .any, .any, .int .i64 4, .int .i64 t169, .any, .any, .any, .any, .any, .any, .any, .any, .any, .any, .any, .any, .any, .any, .any, .any, .any, .any, .any, .any, .any, .any, .any, .any, .any, .any, .any, .any, .any, .any, .any, .any, .any, .any, .any, .any, .any, .any, .any, .any, .any, .any, .any, .any, .any, .any, .any, .any, .any, .any, .any, .any, .any, .any, .any, .any, .any, .any, .any, .any, .any, .any, .any, .any, .any, .any, .any, .any, .any, .any, .any, .any, .any, .any, .any, .any, .any, .any, .any, .any, .any, .any], [.at true (.int .i64 [b0_0, b0_1, b0_2, b0_3]), .at true (.int .i64 [b1_0, b1_1, b1_2]), .at true (.int .i64 l2)]⟩
abbrev kp_sxS30 : Option (List Nat × List Nat) := some ([0, 1, 2, 3, 4, 5, 18, 19, 22, 24, 25, 26, 168, 169], [0, 1, 2, 3, 4, 5, 18, 19, 22, 24, 25, 26])
noncomputable def lp_sxS30 {R : Type} (N M : Nat) (s : St) (K : X → St → Option R) : Option R := loopH 0 kp_sxS30 (fun st K => exec ty tab_sxS an_sxS N 0 (atOf [true, true, true, true, true, true, true, true, true, true, false, true, false, false, true, false, false, true, true, false, true, false, false] Try.f53) st K) M s K
noncomputable def bk_sxS30 {R : Type} (N M : Nat) (K : X → St → Option R) : X → St → Option R := fun x st => match x with | .norm => tidyK 0 (kp_sxS30.map (·.1)) st fun st => lp_sxS30 N M st K | x => tidyK 0 (kp_sxS30.map (·.2)) st fun st => K x st
noncomputable def kt_sxS30 {R : Type} (N : Nat) (K : X → St → Option R) : X → St → Option R := kBlkR 8 (kSeqR tab_sxS an_sxS N 0 (atOf [true, true, true, true, true, true, true, true, true, true, false, true, false, false, true, false, false, true, true, true] Try.f53) (kBlkR 7 (kSeqR tab_sxS an_sxS N 0 (atOf [true, true, true, true, true, true, true, true, true, true, false, true, false, false, true, true] Try.f53) (K))))
def st_sxS35 (t0 : Int) (t1 : Int) (t2 : Int) (t3 : Int) (t4 : Int) (t5 : Int) (t22 : Int) (t24 : Int) (t25 : Int) (t183 : Int) (b0_0 : Int) (b0_1 : Int) (b0_2 : Int) (b0_3 : Int) (b1_0 : Int) (b1_1 : Int) (b1_2 : Int) (l2 : List Int) : St := ⟨[.int .i64 t0, .int .i64 t1, .int .i64 t2, .int .i64 t3, .int .i64 t4, .int .i64 t5, .any, .any, .any, .any, .any, .any, .any, .any, .any, .any, .any, .any, .sl 0 0 4, .sl 1 0 3, .any, .any, .int .i64 t22, .any, .int .i64 t24, .int .i64 t25, .ptr 2 0, .any, .any, .any, .any, .any, .any, .any, .any, .any, .any, .any, .any, .any, .any, .any, .any, .any, .any, .any, .any, .any, .any, .any, .any, .any, .any, .any, .any, .any, .any, .any, .any, .any, .any, .any, .any, .any, .any, .any, .any, .any, .any, .any, .any, .any, .any, .any, .any, .any, .any, .any, .any, .any, .any, .any, .any, .any, .any, .any, .any, .any, .any, .any, .any, .any, .any, .any, .any, .any, .any, .any, .any, .any, .any, .any, .any, .any, .any, .any, .any, .any, .any, .any, .any, .any, .any, .any, .any, .any, .any, .any, .any, .any, .any, .any, .any, .any, .any, .any, .any, .any, .any, .any, .any, .any, .any, .any, .any, .any, .any, .any, .any, .any, .any, .any, .any, .any, .any, .any, .any, .any, .any, .any, .any, .any, .any, .any, .any, .any, .any, .any, .any, .any, .any, .any, .any, .any, .any, .any, .any, .any, .any, .any, .any, .any, .any, .any, .any, .any, .any, .any, .any, .any, .any, .any, .int .i64 3, .int .i64 t183, .any, .any, .any, .any, .any, .any, .any, .any, .any, .any, .any, .any, .any, .any, .any, .any, .any, .any, .any, .any, .any, .any, .any, .any, .any, .any, .any, .any, .any, .any, .any, .any, .any, .any, .any, .any, .any, .any, .any, .any, .any, .any, .any, .any, .any, .any, .any, .any, .any, .any, .any, .any, .any, .any, .any, .any, .any, .any, .any, .any, .any, .any, .any, .any, .any, .any, .any, .any], [.at true (.int .i64 [b0_0, b0_1, b0_2, b0_3]), .at true (.int .i64 [b1_0, b1_1, b1_2]), .at true (.int .i64 l2)]⟩
abbrev kp_sxS35 : Option (List Nat × List Nat) := some ([0, 1, 2, 3, 4, 5, 18, 19, 22, 24, 25, 26, 182, 183], [0, 1, 2, 3, 4, 5, 18, 19, 22, 24, 25, 26])
noncomputable def lp_sxS35 {R : Type} (N M : Nat) (s : St) (K : X → St → Option R) : Option R := loopH 0 kp_sxS35 (fun st K => exec ty tab_sxS an_sxS N 0 (atOf [true, true, true, true, true, true, true, true, true, true, false, true, false, false, true, false, false, true, true, true, false, true, false, false] Try.f53) st K) M s K
noncomputable def bk_sxS35 {R : Type} (N M : Nat) (K : X → St → Option R) : X → St → Option R := fun x st => match x with | .norm => tidyK 0 (kp_sxS35.map (·.1)) st fun st => lp_sxS35 N M st K | x => tidyK 0 (kp_sxS35.map (·.2)) st fun st => K x st
noncomputable def kt_sxS35 {R : Type} (N : Nat) (K : X → St → Option R) : X → St → Option R := kBlkR 10 (kSeqR tab_sxS an_sxS N 0 (atOf [true, true, true, true, true, true, true, true, true, true, false, true, false, false, true, false, false, true, true, true, true] Try.f53) (kBlkR 7 (kSeqR tab_sxS an_sxS N 0 (atOf [true, true, true, true, true, true, true, true, true, true, false, true, false, false, true, true] Try.f53) (K))))
def st_sxS41 (t0 : Int) (t1 : Int) (t2 : Int) (t3 : Int) (t4 : Int) (t5 : Int) (t22 : Int) (t24 : Int) (t25 : Int) (t29 : Int) (t195 : Int) (b0_0 : Int) (b0_1 : Int) (b0_2 : Int) (b0_3 : Int) (b1_0 : Int) (b1_1 : Int) (b1_2 : Int) (l2 : List Int) : St := ⟨[.int .i64 t0, .int .i64 t1, .int .i64 t2, .int .i64 t3, .int .i64 t4, .int .i64 t5, .any, .any, .any, .any, .any, .any, .any, .any, .any, .any, .any, .any, .sl 0 0 4, .sl 1 0 3, .any, .any, .int .i64 t22, .any, .int .i64 t24, .int .i64 t25, .ptr 2 0, .any, .any, .int .i64 t29, .any, .any, .any, .any, .any, .any, .any, .any, .any, .any, .any, .any, .any, .any, .any, .any, .any, .any, .any, .any, .any, .any, .any, .any, .any, .any, .any, .any, .any, .any, .any, .any, .any, .any, .any, .any, .any, .any, .any, .any, .any, .any, .any, .any, .any, .any, .any, .any, .any, .any, .any, .any, .any, .any, .any, .any, .any, .any, .any, .any, .any, .any, .any, .any, .any, .any, .any, .any, .any, .any, .any, .any, .any, .any, .any, .any, .any, .any, .any, .any, .any, .any, .any, .any, .any, .any, .any, .any, .any, .any, .any, .any, .any, .any, .any, .any, .any, .any, .any, .any, .any, .any, .any, .any, .any, .any, .any, .any, .any, .any, .any, .any, .any, .any, .any, .any, .any, .any, .any, .any, .any, .any, .any, .any, .any, .any, .any, .any, .any, .any, .any, .any, .any, .any, .any, .any, .any, .any, .any, .any, .any, .any, .any, .any, .any, .any, .any, .any, .any, .any, .any, .any, .any, .any, .any, .any, .any, .any, .any, .any, .any, .any, .any, .any, .any, .int .i64 t195, .any, .any, .any, .any, .any, .any, .any, .any, .any, .any, .any, .any, .any, .any, .any, .any, .any, .any, .any, .any, .any, .any, .any, .any, .any, .any, .any, .any, .any, .any, .any, .any, .any, .any, .any, .any, .any, .any, .any, .any, .any, .any, .any, .any, .any, .any, .any, .any, .any, .any, .any, .any, .any, .any, .any, .any], [.at true (.int .i64 [b0_0, b0_1, b0_2, b0_3]), .at true (.int .i64 [b1_0, b1_1, b1_2]), .at true (.int .i64 l2)]⟩
abbrev kp_sxS41 : Option (List Nat × List Nat) := some ([0, 1, 2, 3, 4, 5, 18, 19, 22, 24, 25, 26, 29, 195], [0, 1, 2, 3, 4, 5, 18, 19, 22, 24, 25, 29])
noncomputable def lp_sxS41 {R : Type} (N M : Nat) (s : St) (K : X → St → Option R) : Option R := loopH 0 kp_sxS41 (fun st K => exec ty tab_sxS an_sxS N 0 (atOf [true, true, true, true, true, true, true, true, true, true, false, true, false, false, true, false, false, true, true, true, true, true, false, true, false, false] Try.f53) st K) M s K
noncomputable def bk_sxS41 {R : Type} (N M : Nat) (K : X → St → Option R) : X → St → Option R := fun x st => match x with | .norm => tidyK 0 (kp_sxS41.map (·.1)) st fun st => lp_sxS41 N M st K | x => tidyK 0 (kp_sxS41.map (·.2)) st fun st => K x st
noncomputable def kt_sxS41 {R : Type} (N : Nat) (K : X → St → Option R) : X → St → Option R := kBlkR 12 (kSeqR tab_sxS an_sxS N 0 (atOf [true, true, true, true, true, true, true, true, true, true, false, true, false, false, true, false, false, true, true, true, true, true, true] Try.f53) (kBlkR 7 (kSeqR tab_sxS an_sxS N 0 (atOf [true, true, true, true, true, true, true, true, true, true, false, true, false, false, true, true] Try.f53) (K))))
def st_sxS44 (t0 : Int) (t1 : Int) (t2 : Int) (t3 : Int) (t4 : Int) (t5 : Int) (t22 : Int) (t24 : Int) (t25 : Int) (t29 : Int) (t30 : Int) (t31 : Int) (b0_0 : Int) (b0_1 : Int) (b0_2 : Int) (b0_3 : Int) (b1_0 : Int) (b1_1 : Int) (b1_2 : Int) (l2 : List Int) : St := ⟨[.int .i64 t0, .int .i64 t1, .int .i64 t2, .int .i64 t3, .int .i64 t4, .int .i64 t5, .any, .any, .any, .any, .any, .any, .any, .any, .any, .any, .any, .any, .sl 0 0 4, .sl 1 0 3, .any, .any, .int .i64 t22, .any, .int .i64 t24, .int .i64 t25, .ptr 2 0, .any, .any, .int .i64 t29, .int .i64 t30, .int .i64 t31, .any, .any, .any, .any, .any, .any, .any, .any, .any, .any, .any, .any, .any, .any, .any, .any, .any, .any, .any, .any, .any, .any, .any, .any, .any, .any, .any, .any, .any, .any, .any, .any, .any, .any, .any, .any, .any, .any, .any, .any, .any, .any, .any, .any, .any, .any, .any, .any, .any, .any, .any, .any, .any, .any, .any, .any, .any, .any, .any, .any, .any, .any, .any, .any, .any, .any, .any, .any, .any, .any, .any, .any, .any, .any, .any, .any, .any, .any, .any, .any, .any, .any, .any, .any, .any, .any, .any, .any, .any, .any, .any, .any, .any, .any, .any, .any, .any, .any, .any, .any, .any, .any, .any, .any, .any, .any, .any, .any, .any, .any, .any, .any, .any, .any, .any, .any, .any, .any, .any, .any, .any, .any, .any, .any, .any, .any, .any, .any, .any, .any, .any, .any, .any, .any, .any, .any, .any, .any, .any, .any, .any, .any, .any, .any, .any, .any, .any, .any, .any, .any, .any, .any, .any, .any, .any, .any, .any, .any, .any, .any, .any, .any, .any, .int .i64 t30, .any, .any, .any, .any, .any, .any, .any, .any, .any, .any, .any, .any, .any, .any, .any, .any, .any, .any, .any, .any, .any, .any, .any, .any, .any, .any, .any, .any, .any, .any, .any, .any, .any, .any, .any, .any, .any, .any, .any, .any, .any, .any, .any, .any, .any, .any, .any, .any, .any, .any, .any, .any, .any, .any, .any, .any], [.at true (.int .i64 [b0_0, b0_1, b0_2, b0_3]), .at true (.int .i64 [b1_0, b1_1, b1_2]), .at true (.int .i64 l2)]⟩
abbrev kp_sxS44 : Option (List Nat × List Nat) := some ([0, 1, 2, 3, 4, 5, 18, 19, 22, 24, 25, 26, 29, 30, 31, 195], [0, 1, 2, 3, 4, 5, 18, 19, 22, 24, 25, 26, 29, 195])
noncomputable def lp_sxS44 {R : Type} (N M : Nat) (s : St) (K : X → St → Option R) : Option R := loopH 0 kp_sxS44 (fun st K => exec ty tab_sxS an_sxS N 0 (atOf [true, true, true, true, true, true, true, true, true, true, false, true, false, false, true, false, false, true, true, true, true, true, false, true, false, false, true, true, false, false, true, true, false, false] Try.f53) st K) M s K
noncomputable def bk_sxS44 {R : Type} (N M : Nat) (K : X → St → Option R) : X → St → Option R := fun x st => match x with | .norm => tidyK 0 (kp_sxS44.map (·.1)) st fun st => lp_sxS44 N M st K | x => tidyK 0 (kp_sxS44.map (·.2)) st fun st => K x st
noncomputable def kt_sxS44 {R : Type} (N : Nat) (K : X → St → Option R) : X → St → Option R := kBlkR 14 (kBlkR 13 (kSeqR tab_sxS an_sxS N 0 (atOf [true, true, true, true, true, true, true, true, true, true, false, true, false, false, true, false, false, true, true, true, true, true, false, true, false, false, true, true, true] Try.f53) (K)))
def en_sxS2_0 (t0 : Int) (t1 : Int) (t2 : Int) (t3 : Int) (t4 : Int) (t5 : Int) : St := ⟨[.int .i64 t0, .int .i64 t1, .int .i64 t2, .int .i64 t3, .int .i64 t4, .int .i64 t5, .any, .any, .any, .any, .any, .any, .int .i64 0, .int .i64 0, .int .i64 0, .bool false, .any, .any, .any, .any, .any, .any, .any, .any, .any, .any, .any, .any, .any, .any, .any, .any, .any, .any, .any, .any, .any, .any, .any, .any, .any, .any, .any, .any, .any, .any, .any, .any, .any, .any, .any, .any, .any, .any, .any, .any, .any, .any, .any, .any, .any, .any, .any, .any, .any, .any, .any, .any, .any, .any, .any, .any, .any, .any, .any, .any, .any, .any, .any, .any, .any, .any, .any, .any, .any, .any, .any, .any, .any, .any, .any, .any, .any, .any, .any, .any, .any, .any, .any, .any, .any, .any, .any, .any, .any, .any, .any, .any, .any, .any, .any, .any, .any, .any, .any, .any, .any, .any, .any, .any, .any, .any, .any, .any, .any, .any, .any, .any, .any, .any, .any, .any, .any, .any, .any, .any, .any, .any, .any, .any, .any, .any, .any, .any, .any, .any, .any, .any, .any, .any, .any, .any, .any, .any, .any, .any, .any, .any, .any, .any, .any, .any, .any, .any, .any, .any, .any, .any, .any, .any, .any, .any, .any, .any, .any, .any, .any, .any, .any, .any, .any, .any, .any, .any, .any, .any, .any, .any, .any, .any, .any, .any, .any, .any, .any, .any, .any, .any, .any, .any, .any, .any, .any, .any, .any, .any, .any, .any, .any, .any, .any, .any, .any, .any, .any, .any, .any, .any, .any, .any, .any, .any, .any, .any, .any, .any, .any, .any, .any, .any, .any, .any, .any, .any, .any, .any, .any, .any, .any, .any, .any, .any, .any, .any, .any, .any, .any, .any, .any, .any, .any, .any], []⟩
def en_sxS2_1 (t0 : Int) (t1 : Int) (t2 : Int) (t3 : Int) (t4 : Int) (t5 : Int) : St := ⟨[.int .i64 t0, .int .i64 t1, .int .i64 t2, .int .i64 t3, .int .i64 t4, .int .i64 t5, .any, .any, .any, .any, .any, .any, .any, .any, .any, .any, .any, .any, .any, .any, .any, .any, .any, .any, .any, .any, .any, .any, .any, .any, .any, .any, .any, .any, .any, .any, .any, .any, .any, .any, .any, .any, .any, .any, .any, .any, .any, .any, .any, .any, .any, .any, .any, .any, .any, .any, .any, .any, .any, .any, .any, .any, .any, .any, .any, .any, .any, .any, .any, .any, .any, .any, .any, .any, .any, .any, .any, .any, .any, .any, .any, .any, .any, .any, .any, .any, .any, .any, .any, .any, .any, .any, .any, .any, .any, .any, .any, .any, .any, .any, .any, .any, .any, .any, .any, .any, .any, .any, .any, .any, .any, .any, .any, .any, .any, .any, .any, .any, .any, .any, .any, .any, .any, .any, .any, .any, .any, .any, .any, .any, .any, .any, .any, .any, .any, .any, .any, .any, .any, .any, .any, .any, .any, .any, .any, .any, .any, .any, .any, .any, .any, .any, .any, .any, .any, .any, .any, .any, .any, .any, .any, .any, .any, .any, .any, .any, .any, .any, .any, .any, .any, .any, .any, .any, .any, .any, .any, .any, .any, .any, .any, .any, .any, .any, .any, .any, .any, .any, .any, .any, .any, .any, .any, .any, .any, .any, .any, .any, .any, .any, .any, .any, .any, .any, .any, .any, .any, .any, .any, .any, .any, .any, .any, .any, .any, .any, .any, .any, .any, .any, .any, .any, .any, .any, .any, .any, .any, .any, .any, .any, .any, .any, .any, .any, .any, .any, .any, .any, .any, .any, .any, .any, .any, .any, .any, .any, .any, .any, .any, .any, .any, .any], []⟩
def en_sxS13_0 (t0 : Int) (t1 : Int) (t2 : Int) (t3 : Int) (t4 : Int) (t5 : Int) (t20 : Int) (b0_0 : Int) (b0_1 : Int) (b0_2 : Int) (b0_3 : Int) (b1_0 : Int) (b1_1 : Int) (b1_2 : Int) : St := ⟨[.int .i64 t0, .int .i64 t1, .int .i64 t2, .int .i64 t3, .int .i64 t4, .int .i64 t5, .any, .any, .any, .any, .any, .any, .any, .any, .any, .any, .any, .any, .sl 0 0 4, .sl 1 0 3, .int .i64 t20, .any, .any, .any, .any, .any, .any, .any, .any, .any, .any, .any, .any, .any, .any, .any, .any, .any, .any, .any, .any, .any, .any, .any, .any, .any, .any, .any, .any, .any, .any, .any, .any, .any, .any, .any, .any, .any, .any, .any, .any, .any, .any, .any, .any, .any, .any, .any, .any, .any, .any, .any, .any, .any, .any, .any, .any, .any, .any, .any, .any, .any, .any, .any, .any, .any, .any, .any, .any, .any, .any, .any, .any, .any, .any, .any, .any, .any, .any, .any, .any, .any, .any, .any, .any, .any, .any, .any, .any, .any, .any, .any, .any, .any, .any, .any, .any, .any, .any, .any, .any, .any, .any, .any, .any, .any, .any, .any, .any, .any, .any, .any, .any, .any, .any, .any, .any, .any, .any, .any, .any, .any, .any, .any, .any, .any, .any, .any, .any, .any, .any, .any, .any, .any, .any, .any, .any, .any, .any, .any, .any, .any, .any, .any, .any, .any, .any, .any, .any, .any, .any, .any, .any, .any, .any, .any, .any, .any, .any, .any, .any, .any, .any, .any, .any, .any, .any, .any, .any, .any, .any, .any, .any, .any, .any, .any, .any, .any, .any, .any, .any, .any, .any, .any, .any, .any, .any, .any, .any, .any, .any, .any, .any, .any, .any, .any, .any, .any, .any, .any, .any, .any, .any, .any, .any, .any, .any, .any, .any, .any, .any, .any, .any, .any, .any, .any, .any, .any, .any, .any, .any, .any, .any, .any, .any, .any, .any, .any, .any, .any, .any, .any], [.at true (.int .i64 [b0_0, b0_1, b0_2, b0_3]), .at true (.int .i64 [b1_0, b1_1, b1_2])]⟩
def en_sxS19_0 (t0 : Int) (t1 : Int) (t2 : Int) (t3 : Int) (t4 : Int) (t5 : Int) (t20 : Int) (t22 : Int) (b0_0 : Int) (b0_1 : Int) (b0_2 : Int) (b0_3 : Int) (b1_0 : Int) (b1_1 : Int) (b1_2 : Int) : St := ⟨[.int .i64 t0, .int .i64 t1, .int .i64 t2, .int .i64 t3, .int .i64 t4, .int .i64 t5, .any, .any, .any, .any, .any, .any, .any, .any, .any, .any, .any, .any, .sl 0 0 4, .sl 1 0 3, .int .i64 t20, .any, .int .i64 t22, .any, .any, .any, .any, .any, .any, .any, .any, .any, .any, .any, .any, .any, .any, .any, .any, .any, .any, .any, .any, .any, .any, .any, .any, .any, .any, .any, .any, .any, .any, .any, .any, .any, .any, .any, .any, .any, .any, .any, .any, .any, .any, .any, .any, .any, .any, .any, .any, .any, .any, .any, .any, .any, .any, .any, .any, .any, .any, .any, .any, .any, .any, .any, .any, .any, .any, .any, .any, .any, .any, .any, .any, .any, .any, .any, .any, .any, .any, .any, .any, .any, .any, .any, .any, .any, .any, .any, .any, .any, .any, .any, .any, .any, .any, .any, .any, .any, .any, .any, .any, .any, .any, .any, .any, .any, .any, .any, .any, .any, .any, .any, .any, .any, .any, .any, .any, .any, .any, .any, .any, .any, .any, .any, .any, .any, .any, .any, .any, .any, .any, .any, .any, .any, .any, .any, .any, .any, .any, .any, .any, .any, .any, .any, .any, .any, .any, .any, .any, .any, .any, .any, .any, .any, .any, .any, .any, .any, .any, .any, .any, .any, .any, .any, .any, .any, .any, .any, .any, .any, .any, .any, .any, .any, .any, .any, .any, .any, .any, .any, .any, .any, .any, .any, .any, .any, .any, .any, .any, .any, .any, .any, .any, .any, .any, .any, .any, .any, .any, .any, .any, .any, .any, .any, .any, .any, .any, .any, .any, .any, .any, .any, .any, .any, .any, .any, .any, .any, .any, .any, .any, .any, .any, .any, .any, .any, .any, .any, .any, .any], [.at true (.int .i64 [b0_0, b0_1, b0_2, b0_3]), .at true (.int .i64 [b1_0, b1_1, b1_2])]⟩
def en_sxS25_0 (t0 : Int) (t1 : Int) (t2 : Int) (t3 : Int) (t4 : Int) (t5 : Int) (t24 : Int) : St := ⟨[.int .i64 t0, .int .i64 t1, .int .i64 t2, .int .i64 t3, .int .i64 t4, .int .i64 t5, .any, .any, .any, .any, .any, .any, .any, .any, .any, .any, .any, .any, .any, .any, .any, .any, .any, .any, .int .i64 t24, .any, .any, .any, .any, .any, .any, .any, .any, .any, .any, .any, .any, .any, .any, .any, .any, .any, .any, .any, .any, .any, .any, .any, .any, .any, .any, .any, .any, .any, .any, .any, .any, .any, .any, .any, .any, .any, .any, .any, .any, .any, .any, .any, .any, .any, .any, .any, .any, .any, .any, .any, .any, .any, .any, .any, .any, .any, .any, .any, .any, .any, .any, .any, .any, .any, .any, .any, .any, .any, .any, .any, .any, .any, .any, .any, .any, .any, .any, .any, .any, .any, .any, .any, .any, .any, .any, .any, .any, .any, .any, .any, .any, .any, .any, .any, .any, .any, .any, .any, .any, .any, .any, .any, .any, .any, .any, .any, .any, .any, .any, .any, .any, .any, .any, .any, .any, .any, .any, .any, .any, .any, .any, .any, .any, .any, .any, .any, .any, .any, .any, .any, .any, .any, .any, .any, .any, .any, .any, .any, .any, .any, .any, .any, .any, .any, .any, .any, .any, .any, .any, .any, .any, .any, .any, .any, .any, .any, .any, .any, .any, .any, .any, .any, .any, .any, .any, .any, .any, .any, .any, .any, .any, .any, .any, .any, .any, .any, .any, .any, .any, .any, .any, .any, .any, .any, .any, .any, .any, .any, .any, .any, .any, .any, .any, .any, .any, .any, .any, .any, .any, .any, .any, .any, .any, .any, .any, .any, .any, .any, .any, .any, .any, .any, .any, .any, .any, .any, .any, .any, .any, .any, .any, .any, .any, .any, .any, .any], []⟩
def en_sxS30_0 (t0 : Int) (t1 : Int) (t2 : Int) (t3 : Int) (t4 : Int) (t5 : Int) (t22 : Int) (t24 : Int) (t25 : Int) (b0_0 : Int) (b0_1 : Int) (b0_2 : Int) (b0_3 : Int) (b1_0 : Int) (b1_1 : Int) (b1_2 : Int) (l2 : List Int) : St := ⟨[.int .i64 t0, .int .i64 t1, .int .i64 t2, .int .i64 t3, .int .i64 t4, .int .i64 t5, .any, .any, .any, .any, .any, .any, .any, .any, .any, .any, .any, .any, .sl 0 0 4, .sl 1 0 3, .any, .any, .int .i64 t22, .any, .int .i64 t24, .int .i64 t25, .ptr 2 0, .any, .any, .any, .any, .any, .any, .any, .any, .any, .any, .any, .any, .any, .any, .any, .any, .any, .any, .any, .any, .any, .any, .any, .any, .any, .any, .any, .any, .any, .any, .any, .any, .any, .any, .any, .any, .any, .any, .any, .any, .any, .any, .any, .any, .any, .any, .any, .any, .any, .any, .any, .any, .any, .any, .any, .any, .any, .any, .any, .any, .any, .any, .any, .any, .any, .any, .any, .any, .any, .any, .any, .any, .any, .any, .any, .any, .any, .any, .any, .any, .any, .any, .any, .any, .any, .any, .any, .any, .any, .any, .any, .any, .any, .any, .any, .any, .any, .any, .any, .any, .any, .any, .any, .any, .any, .any, .any, .any, .any, .any, .any, .any, .any, .any, .any, .any, .any, .any, .any, .any, .any, .any, .any, .any, .any, .any, .any, .any, .any, .any, .any, .any, .any, .any, .any, .any, .any, .any, .any, .any, .any, .any, .any, .any, .any, .any, .any, .any, .any, .any, .any, .any, .any, .any, .any, .any, .any, .any, .any, .any, .any, .any, .any, .any, .any, .any, .any, .any, .any, .any, .any, .any, .any, .any, .any, .any, .any, .any, .any, .any, .any, .any, .any, .any, .any, .any, .any, .any, .any, .any, .any, .any, .any, .any, .any, .any, .any, .any, .any, .any, .any, .any, .any, .any, .any, .any, .any, .any, .any, .any, .any, .any, .any, .any, .any, .any, .any, .any, .any, .any, .any, .any, .any, .any, .any], [.at true (.int .i64 [b0_0, b0_1, b0_2, b0_3]), .at true (.int .i64 [b1_0, b1_1, b1_2]), .at true (.int .i64 l2)]⟩
def en_sxS35_0 (t0 : Int) (t1 : Int) (t2 : Int) (t3 : Int) (t4 : Int) (t5 : Int) (t22 : Int) (t24 : Int) (t25 : Int) (b0_0 : Int) (b0_1 : Int) (b0_2 : Int) (b0_3 : Int) (b1_0 : Int) (b1_1 : Int) (b1_2 : Int) (l2 : List Int) : St := ⟨[.int .i64 t0, .int .i64 t1, .int .i64 t2, .int .i64 t3, .int .i64 t4, .int .i64 t5, .any, .any, .any, .any, .any, .any, .any, .any, .any, .any, .any, .any, .sl 0 0 4, .sl 1 0 3, .any, .any, .int .i64 t22, .any, .int .i64 t24, .int .i64 t25, .ptr 2 0, .any, .any, .any, .any, .any, .any, .any, .any, .any, .any, .any, .any, .any, .any, .any, .any, .any, .any, .any, .any, .any, .any, .any, .any, .any, .any, .any, .any, .any, .any, .any, .any, .any, .any, .any, .any, .any, .any, .any, .any, .any, .any, .any, .any, .any, .any, .any, .any, .any, .any, .any, .any, .any, .any, .any, .any, .any, .any, .any, .any, .any, .any, .any, .any, .any, .any, .any, .any, .any, .any, .any, .any, .any, .any, .any, .any, .any, .any, .any, .any, .any, .any, .any, .any, .any, .any, .any, .any, .any, .any, .any, .any, .any, .any, .any, .any, .any, .any, .any, .any, .any, .any, .any, .any, .any, .any, .any, .any, .any, .any, .any, .any, .any, .any, .any, .any, .any, .any, .any, .any, .any, .any, .any, .any, .any, .any, .any, .any, .any, .any, .any, .any, .any, .any, .any, .any, .any, .any, .any, .any, .any, .any, .any, .any, .any, .any, .any, .any, .any, .any, .any, .any, .any, .any, .any, .any, .any, .any, .any, .any, .any, .any, .any, .any, .any, .any, .any, .any, .any, .any, .any, .any, .any, .any, .any, .any, .any, .any, .any, .any, .any, .any, .any, .any, .any, .any, .any, .any, .any, .any, .any, .any, .any, .any, .any, .any, .any, .any, .any, .any, .any, .any, .any, .any, .any, .any, .any, .any, .any, .any, .any, .any, .any, .any, .any, .any, .any, .any, .any, .any, .any, .any, .any, .any, .any], [.at true (.int .i64 [b0_0, b0_1, b0_2, b0_3]), .at true (.int .i64 [b1_0, b1_1, b1_2]), .at true (.int .i64 l2)]⟩
def en_sxS44_0 (t0 : Int) (t1 : Int) (t2 : Int) (t3 : Int) (t4 : Int) (t5 : Int) (t22 : Int) (t24 : Int) (t25 : Int) (t29 : Int) (t195 : Int) (b0_0 : Int) (b0_1 : Int) (b0_2 : Int) (b0_3 : Int) (b1_0 : Int) (b1_1 : Int) (b1_2 : Int) (l2 : List Int) : St := ⟨[.int .i64 t0, .int .i64 t1, .int .i64 t2, .int .i64 t3, .int .i64 t4, .int .i64 t5, .any, .any, .any, .any, .any, .any, .any, .any, .any, .any, .any, .any, .sl 0 0 4, .sl 1 0 3, .any, .any, .int .i64 t22, .any, .int .i64 t24, .int .i64 t25, .ptr 2 0, .any, .any, .int .i64 t29, .any, .any, .any, .any, .any, .any, .any, .any, .any, .any, .any, .any, .any, .any, .any, .any, .any, .any, .any, .any, .any, .any, .any, .any, .any, .any, .any, .any, .any, .any, .any, .any, .any, .any, .any, .any, .any, .any, .any, .any, .any, .any, .any, .any, .any, .any, .any, .any, .any, .any, .any, .any, .any, .any, .any, .any, .any, .any, .any, .any, .any, .any, .any, .any, .any, .any, .any, .any, .any, .any, .any, .any, .any, .any, .any, .any, .any, .any, .any, .any, .any, .any, .any, .any, .any, .any, .any, .any, .any, .any, .any, .any, .any, .any, .any, .any, .any, .any, .any, .any, .any, .any, .any, .any, .any, .any, .any, .any, .any, .any, .any, .any, .any, .any, .any, .any, .any, .any, .any, .any, .any, .any, .any, .any, .any, .any, .any, .any, .any, .any, .any, .any, .any, .any, .any, .any, .any, .any, .any, .any, .any, .any, .any, .any, .any, .any, .any, .any, .any, .any, .any, .any, .any, .any, .any, .any, .any, .any, .any, .any, .any, .any, .any, .any, .any, .int .i64 t195, .any, .any, .any, .any, .any, .any, .any, .any, .any, .any, .any, .any, .any, .any, .any, .any, .any, .any, .any, .any, .any, .any, .any, .any, .any, .any, .any, .any, .any, .any, .any, .any, .any, .any, .any, .any, .any, .any, .any, .any, .any, .any, .any, .any, .any, .any, .any, .any, .any, .any, .any, .any, .any, .any, .any, .any], [.at true (.int .i64 [b0_0, b0_1, b0_2, b0_3]), .at true (.int .i64 [b1_0, b1_1, b1_2]), .at true (.int .i64 l2)]⟩
def en_sxS41_0 (t0 : Int) (t1 : Int) (t2 : Int) (t3 : Int) (t4 : Int) (t5 : Int) (t22 : Int) (t24 : Int) (t25 : Int) (t29 : Int) (b0_0 : Int) (b0_1 : Int) (b0_2 : Int) (b0_3 : Int) (b1_0 : Int) (b1_1 : Int) (b1_2 : Int) : St := ⟨[.int .i64 t0, .int .i64 t1, .int .i64 t2, .int .i64 t3, .int .i64 t4, .int .i64 t5, .any, .any, .any, .any, .any, .any, .any, .any, .any, .any, .any, .any, .sl 0 0 4, .sl 1 0 3, .any, .any, .int .i64 t22, .any, .int .i64 t24, .int .i64 t25, .any, .any, .any, .int .i64 t29, .any, .any, .any, .any, .any, .any, .any, .any, .any, .any, .any, .any, .any, .any, .any, .any, .any, .any, .any, .any, .any, .any, .any, .any, .any, .any, .any, .any, .any, .any, .any, .any, .any, .any, .any, .any, .any, .any, .any, .any, .any, .any, .any, .any, .any, .any, .any, .any, .any, .any, .any, .any, .any, .any, .any, .any, .any, .any, .any, .any, .any, .any, .any, .any, .any, .any, .any, .any, .any, .any, .any, .any, .any, .any, .any, .any, .any, .any, .any, .any, .any, .any, .any, .any, .any, .any, .any, .any, .any, .any, .any, .any, .any, .any, .any, .any, .any, .any, .any, .any, .any, .any, .any, .any, .any, .any, .any, .any, .any, .any, .any, .any, .any, .any, .any, .any, .any, .any, .any, .any, .any, .any, .any, .any, .any, .any, .any, .any, .any, .any, .any, .any, .any, .any, .any, .any, .any, .any, .any, .any, .any, .any, .any, .any, .any, .any, .any, .any, .any, .any, .any, .any, .any, .any, .any, .any, .any, .any, .any, .any, .any, .any, .any, .any, .any, .any, .any, .any, .any, .any, .any, .any, .any, .any, .any, .any, .any, .any, .any, .any, .any, .any, .any, .any, .any, .any, .any, .any, .any, .any, .any, .any, .any, .any, .any, .any, .any, .any, .any, .any, .any, .any, .any, .any, .any, .any, .any, .any, .any, .any, .any, .any, .any, .any, .any, .any, .any, .any, .any, .any, .any, .any], [.at true (.int .i64 [b0_0, b0_1, b0_2, b0_3]), .at true (.int .i64 [b1_0, b1_1, b1_2])]⟩
theorem run_sxS (N : Nat) (a : Int) (b : Int) (c : Int) (d : Int) (e : Int) (f : Int) : run ty tab_sxS an_sxS N Try.f53 [.int .i64 a, .int .i64 b, .int .i64 c, .int .i64 d, .int .i64 e, .int .i64 f] []
    = lp_sxS2 N N (st_sxS2 a b c d e f 0) (kt_sxS2 N (kEnd Try.f53 0)) := by
  kernel_rfl
theorem step_sxS2 {R : Type} (N M : Nat) (K : X → St → Option R) (t0 : Int) (t1 : Int) (t2 : Int) (t3 : Int) (t4 : Int) (t5 : Int) (t44 : Int) : lp_sxS2 N (M + 1) (st_sxS2 t0 t1 t2 t3 t4 t5 t44) K
    = (match decide ((t44 : Int) < 6) with
  | true => (match decide (0 ≤ (t44 : Int) ∧ (t44 : Int) < 6) with
    | true => (match [t0, t1, t2, t3, t4, t5][0 + (t44).toNat * 1]? with
      | some e1 => (match !(is6 e1) with
        | true => K .ret (en_sxS2_0 t0 t1 t2 t3 t4 t5)
        | false => lp_sxS2 N M (st_sxS2 t0 t1 t2 t3 t4 t5 (IntKind.i64.wrap (t44 + 1))) K)
      | none => none)
    | false => none)
  | false => K (.exit 0) (en_sxS2_1 t0 t1 t2 t3 t4 t5)) := by
  kernel_rfl
theorem step_sxS13 {R : Type} (N M : Nat) (K : X → St → Option R) (t0 : Int) (t1 : Int) (t2 : Int) (t3 : Int) (t4 : Int) (t5 : Int) (t20 : Int) (t130 : Int) (b0_0 : Int) (b0_1 : Int) (b0_2 : Int) (b0_3 : Int) (b1_0 : Int) (b1_1 : Int) (b1_2 : Int) : lp_sxS13 N (M + 1) (st_sxS13 t0 t1 t2 t3 t4 t5 t20 t130 b0_0 b0_1 b0_2 b0_3 b1_0 b1_1 b1_2) K
    = (match decide ((t130 : Int) < 4) with
  | true => (match decide (0 ≤ (t130 : Int) ∧ (t130 : Int) < 4) with
    | true => (match [b0_0, b0_1, b0_2, b0_3][0 + (t130).toNat * 1]? with
      | some e1 => lp_sxS13 N M (st_sxS13 t0 t1 t2 t3 t4 t5 (mxI t20 e1) (IntKind.i64.wrap (t130 + 1)) b0_0 b0_1 b0_2 b0_3 b1_0 b1_1 b1_2) K
      | none => none)
    | false => none)
  | false => K (.exit 2) (en_sxS13_0 t0 t1 t2 t3 t4 t5 t20 b0_0 b0_1 b0_2 b0_3 b1_0 b1_1 b1_2)) := by
  kernel_rfl
theorem step_sxS19 {R : Type} (N M : Nat) (K : X → St → Option R) (t0 : Int) (t1 : Int) (t2 : Int) (t3 : Int) (t4 : Int) (t5 : Int) (t20 : Int) (t22 : Int) (t145 : Int) (b0_0 : Int) (b0_1 : Int) (b0_2 : Int) (b0_3 : Int) (b1_0 : Int) (b1_1 : Int) (b1_2 : Int) : lp_sxS19 N (M + 1) (st_sxS19 t0 t1 t2 t3 t4 t5 t20 t22 t145 b0_0 b0_1 b0_2 b0_3 b1_0 b1_1 b1_2) K
    = (match decide ((t145 : Int) < 3) with
  | true => (match decide (0 ≤ (t145 : Int) ∧ (t145 : Int) < 3) with
    | true => (match [b1_0, b1_1, b1_2][0 + (t145).toNat * 1]? with
      | some e1 => lp_sxS19 N M (st_sxS19 t0 t1 t2 t3 t4 t5 t20 (mnI t22 e1) (IntKind.i64.wrap (t145 + 1)) b0_0 b0_1 b0_2 b0_3 b1_0 b1_1 b1_2) K
      | none => none)
    | false => none)
  | false => K (.exit 4) (en_sxS19_0 t0 t1 t2 t3 t4 t5 t20 t22 b0_0 b0_1 b0_2 b0_3 b1_0 b1_1 b1_2)) := by
  kernel_rfl
theorem step_sxS25 {R : Type} (N M : Nat) (K : X → St → Option R) (t0 : Int) (t1 : Int) (t2 : Int) (t3 : Int) (t4 : Int) (t5 : Int) (t22 : Int) (t24 : Int) (t25 : Int) (b0_0 : Int) (b0_1 : Int) (b0_2 : Int) (b0_3 : Int) (b1_0 : Int) (b1_1 : Int) (b1_2 : Int) : lp_sxS25 N (M + 1) (st_sxS25 t0 t1 t2 t3 t4 t5 t22 t24 t25 b0_0 b0_1 b0_2 b0_3 b1_0 b1_1 b1_2) K
    = (match decide ((t25 : Int) ≤ t22) with
  | true => (match (flR (IntKind.i64.wrap (t25 + 1)) 1 [0, 0, 0, 0, 0, 0, 0, 0, 0, 0, 0, 0, 0, 0]).isSome with
    | true => (match nmO (α := List Int) (((flR (IntKind.i64.wrap (t25 + 1)) 1 [0, 0, 0, 0, 0, 0, 0, 0, 0, 0, 0, 0, 0, 0]).getD [])) with
      | some w1 => lp_sxS30 N N (st_sxS30 t0 t1 t2 t3 t4 t5 t22 t24 t25 0 b0_0 b0_1 b0_2 b0_3 b1_0 b1_1 b1_2 w1) (kt_sxS30 N (bk_sxS25 N M K))
      | none => none)
    | false => none)
  | false => K (.exit 6) (en_sxS25_0 t0 t1 t2 t3 t4 t5 t24)) := by
  kernel_rfl
theorem step_sxS30 {R : Type} (N M : Nat) (K : X → St → Option R) (t0 : Int) (t1 : Int) (t2 : Int) (t3 : Int) (t4 : Int) (t5 : Int) (t22 : Int) (t24 : Int) (t25 : Int) (t169 : Int) (b0_0 : Int) (b0_1 : Int) (b0_2 : Int) (b0_3 : Int) (b1_0 : Int) (b1_1 : Int) (b1_2 : Int) (l2 : List Int) : lp_sxS30 N (M + 1) (st_sxS30 t0 t1 t2 t3 t4 t5 t22 t24 t25 t169 b0_0 b0_1 b0_2 b0_3 b1_0 b1_1 b1_2 l2) K
    = (match decide ((t169 : Int) < 4) with
  | true => (match decide (0 ≤ (t169 : Int) ∧ (t169 : Int) < 4) with
    | true => (match [b0_0, b0_1, b0_2, b0_3][0 + (t169).toNat * 1]? with
      | some e1 => (match (flR (IntKind.i64.wrap (t25 - e1)) (-1) l2).isSome with
        | true => (match nmO (α := List Int) (((flR (IntKind.i64.wrap (t25 - e1)) (-1) l2).getD [])) with
          | some w2 => lp_sxS30 N M (st_sxS30 t0 t1 t2 t3 t4 t5 t22 t24 t25 (IntKind.i64.wrap (t169 + 1)) b0_0 b0_1 b0_2 b0_3 b1_0 b1_1 b1_2 w2) K
          | none => none)
        | false => none)
      | none => none)
    | false => none)
  | false => K (.exit 8) (en_sxS30_0 t0 t1 t2 t3 t4 t5 t22 t24 t25 b0_0 b0_1 b0_2 b0_3 b1_0 b1_1 b1_2 l2)) := by
  kernel_rfl
theorem step_sxS35 {R : Type} (N M : Nat) (K : X → St → Option R) (t0 : Int) (t1 : Int) (t2 : Int) (t3 : Int) (t4 : Int) (t5 : Int) (t22 : Int) (t24 : Int) (t25 : Int) (t183 : Int) (b0_0 : Int) (b0_1 : Int) (b0_2 : Int) (b0_3 : Int) (b1_0 : Int) (b1_1 : Int) (b1_2 : Int) (l2 : List Int) : lp_sxS35 N (M + 1) (st_sxS35 t0 t1 t2 t3 t4 t5 t22 t24 t25 t183 b0_0 b0_1 b0_2 b0_3 b1_0 b1_1 b1_2 l2) K
    = (match decide ((t183 : Int) < 3) with
  | true => (match decide (0 ≤ (t183 : Int) ∧ (t183 : Int) < 3) with
    | true => (match [b1_0, b1_1, b1_2][0 + (t183).toNat * 1]? with
      | some e1 => (match (flR (IntKind.i64.wrap (e1 - t25)) (-1) l2).isSome with
        | true => (match nmO (α := List Int) (((flR (IntKind.i64.wrap (e1 - t25)) (-1) l2).getD [])) with
          | some w2 => lp_sxS35 N M (st_sxS35 t0 t1 t2 t3 t4 t5 t22 t24 t25 (IntKind.i64.wrap (t183 + 1)) b0_0 b0_1 b0_2 b0_3 b1_0 b1_1 b1_2 w2) K
          | none => none)
        | false => none)
      | none => none)
    | false => none)
  | false => K (.exit 10) (en_sxS35_0 t0 t1 t2 t3 t4 t5 t22 t24 t25 b0_0 b0_1 b0_2 b0_3 b1_0 b1_1 b1_2 l2)) := by
  kernel_rfl
theorem step_sxS41 {R : Type} (N M : Nat) (K : X → St → Option R) (t0 : Int) (t1 : Int) (t2 : Int) (t3 : Int) (t4 : Int) (t5 : Int) (t22 : Int) (t24 : Int) (t25 : Int) (t29 : Int) (t195 : Int) (b0_0 : Int) (b0_1 : Int) (b0_2 : Int) (b0_3 : Int) (b1_0 : Int) (b1_1 : Int) (b1_2 : Int) (l2 : List Int) : lp_sxS41 N (M + 1) (st_sxS41 t0 t1 t2 t3 t4 t5 t22 t24 t25 t29 t195 b0_0 b0_1 b0_2 b0_3 b1_0 b1_1 b1_2 l2) K
    = (match decide ((t195 : Int) < 14) with
  | true => (match decide (0 ≤ (t195 : Int) ∧ (t195 : Int) < 14) with
    | true => (match l2[0 + (t195).toNat * 1]? with
      | some e1 => lp_sxS44 N N (st_sxS44 t0 t1 t2 t3 t4 t5 t22 t24 t25 t29 t195 e1 b0_0 b0_1 b0_2 b0_3 b1_0 b1_1 b1_2 l2) (kt_sxS44 N (bk_sxS41 N M K))
      | none => none)
    | false => none)
  | false => K (.exit 12) (en_sxS41_0 t0 t1 t2 t3 t4 t5 t22 t24 t25 t29 b0_0 b0_1 b0_2 b0_3 b1_0 b1_1 b1_2)) := by
  kernel_rfl
theorem step_sxS44 {R : Type} (N M : Nat) (K : X → St → Option R) (t0 : Int) (t1 : Int) (t2 : Int) (t3 : Int) (t4 : Int) (t5 : Int) (t22 : Int) (t24 : Int) (t25 : Int) (t29 : Int) (t30 : Int) (t31 : Int) (b0_0 : Int) (b0_1 : Int) (b0_2 : Int) (b0_3 : Int) (b1_0 : Int) (b1_1 : Int) (b1_2 : Int) (l2 : List Int) : lp_sxS44 N (M + 1) (st_sxS44 t0 t1 t2 t3 t4 t5 t22 t24 t25 t29 t30 t31 b0_0 b0_1 b0_2 b0_3 b1_0 b1_1 b1_2 l2) K
    = (match decide ((t31 : Int) > 0) with
  | true => lp_sxS44 N M (st_sxS44 t0 t1 t2 t3 t4 t5 t22 t24 t25 (IntKind.i64.wrap (t29 * t30)) t30 (IntKind.i64.wrap (t31 - 1)) b0_0 b0_1 b0_2 b0_3 b1_0 b1_1 b1_2 l2) K
  | false => K (.exit 14) (en_sxS44_0 t0 t1 t2 t3 t4 t5 t22 t24 t25 t29 t30 b0_0 b0_1 b0_2 b0_3 b1_0 b1_1 b1_2 l2)) := by
  kernel_rfl
theorem end_sxS2_0 (N : Nat) (t0 : Int) (t1 : Int) (t2 : Int) (t3 : Int) (t4 : Int) (t5 : Int) : kt_sxS2 N (kEnd Try.f53 0) .ret (en_sxS2_0 t0 t1 t2 t3 t4 t5)
    = some (.tup [.a (.int .i64 0), .a (.int .i64 0), .a (.int .i64 0), .a (.bool false)], []) := by
  kernel_rfl
theorem end_sxS2_1 (N : Nat) (t0 : Int) (t1 : Int) (t2 : Int) (t3 : Int) (t4 : Int) (t5 : Int) : kt_sxS2 N (kEnd Try.f53 0) (.exit 0) (en_sxS2_1 t0 t1 t2 t3 t4 t5)
    = (match !(totS t0 t1 t2) with
  | true => some (.tup [.a (.int .i64 0), .a (.int .i64 0), .a (.int .i64 0), .a (.bool false)], [])
  | false => (match !(totS t0 t4 t5) with
    | true => some (.tup [.a (.int .i64 0), .a (.int .i64 0), .a (.int .i64 0), .a (.bool false)], [])
    | false => (match !(totS t3 t1 t5) with
      | true => some (.tup [.a (.int .i64 0), .a (.int .i64 0), .a (.int .i64 0), .a (.bool false)], [])
      | false => (match !(totS t3 t4 t2) with
        | true => some (.tup [.a (.int .i64 0), .a (.int .i64 0), .a (.int .i64 0), .a (.bool false)], [])
        | false => lp_sxS13 N N (st_sxS13 t0 t1 t2 t3 t4 t5 0 0 (IntKind.i64.wrap (Int.tdiv (IntKind.i64.wrap ((IntKind.i64.wrap (t0 + t1)) + t2)) 2)) (IntKind.i64.wrap (Int.tdiv (IntKind.i64.wrap ((IntKind.i64.wrap (t0 + t4)) + t5)) 2)) (IntKind.i64.wrap (Int.tdiv (IntKind.i64.wrap ((IntKind.i64.wrap (t3 + t1)) + t5)) 2)) (IntKind.i64.wrap (Int.tdiv (IntKind.i64.wrap ((IntKind.i64.wrap (t3 + t4)) + t2)) 2)) (IntKind.i64.wrap (Int.tdiv (IntKind.i64.wrap ((IntKind.i64.wrap ((IntKind.i64.wrap (t0 + t1)) + t3)) + t4)) 2)) (IntKind.i64.wrap (Int.tdiv (IntKind.i64.wrap ((IntKind.i64.wrap ((IntKind.i64.wrap (t1 + t2)) + t4)) + t5)) 2)) (IntKind.i64.wrap (Int.tdiv (IntKind.i64.wrap ((IntKind.i64.wrap ((IntKind.i64.wrap (t0 + t2)) + t3)) + t5)) 2))) (kt_sxS13 N (kEnd Try.f53 0)))))) := by
  kernel_rfl
theorem end_sxS13_0 (N : Nat) (t0 : Int) (t1 : Int) (t2 : Int) (t3 : Int) (t4 : Int) (t5 : Int) (t20 : Int) (b0_0 : Int) (b0_1 : Int) (b0_2 : Int) (b0_3 : Int) (b1_0 : Int) (b1_1 : Int) (b1_2 : Int) : kt_sxS13 N (kEnd Try.f53 0) (.exit 2) (en_sxS13_0 t0 t1 t2 t3 t4 t5 t20 b0_0 b0_1 b0_2 b0_3 b1_0 b1_1 b1_2)
    = lp_sxS19 N N (st_sxS19 t0 t1 t2 t3 t4 t5 t20 b1_0 0 b0_0 b0_1 b0_2 b0_3 b1_0 b1_1 b1_2) (kt_sxS19 N (kEnd Try.f53 0)) := by
  kernel_rfl
theorem end_sxS19_0 (N : Nat) (t0 : Int) (t1 : Int) (t2 : Int) (t3 : Int) (t4 : Int) (t5 : Int) (t20 : Int) (t22 : Int) (b0_0 : Int) (b0_1 : Int) (b0_2 : Int) (b0_3 : Int) (b1_0 : Int) (b1_1 : Int) (b1_2 : Int) : kt_sxS19 N (kEnd Try.f53 0) (.exit 4) (en_sxS19_0 t0 t1 t2 t3 t4 t5 t20 t22 b0_0 b0_1 b0_2 b0_3 b1_0 b1_1 b1_2)
    = lp_sxS25 N N (st_sxS25 t0 t1 t2 t3 t4 t5 t22 0 t20 b0_0 b0_1 b0_2 b0_3 b1_0 b1_1 b1_2) (kt_sxS25 N (kEnd Try.f53 0)) := by
  kernel_rfl
theorem end_sxS25_0 (N : Nat) (t0 : Int) (t1 : Int) (t2 : Int) (t3 : Int) (t4 : Int) (t5 : Int) (t24 : Int) : kt_sxS25 N (kEnd Try.f53 0) (.exit 6) (en_sxS25_0 t0 t1 t2 t3 t4 t5 t24)
    = (match (thR t0 t1 t2 [0, 0, 0, 0, 0, 0, 0, 0, 0, 0, 0, 0, 0, 0]).isSome with
  | true => (match nmO (α := List Int) (((thR t0 t1 t2 [0, 0, 0, 0, 0, 0, 0, 0, 0, 0, 0, 0, 0, 0]).getD [])) with
    | some w1 => (match (thR t0 t4 t5 w1).isSome with
      | true => (match (thR t3 t1 t5 ((thR t0 t4 t5 w1).getD [])).isSome with
        | true => (match nmO (α := List Int) (((thR t3 t1 t5 ((thR t0 t4 t5 w1).getD [])).getD [])) with
          | some w2 => (match (thR t3 t4 t2 w2).isSome with
            | true => (match (sqR t24 ((thR t3 t4 t2 w2).getD [])).isSome with
              | true => (match nmO (α := Int) (((sqR t24 ((thR t3 t4 t2 w2).getD [])).getD (0, 0, 0, [])).1) with
                | some w3 => (match nmO (α := Int) (((sqR t24 ((thR t3 t4 t2 w2).getD [])).getD (0, 0, 0, [])).2.1) with
                  | some w4 => (match nmO (α := Int) (((sqR t24 ((thR t3 t4 t2 w2).getD [])).getD (0, 0, 0, [])).2.2.1) with
                    | some w5 => (match nmO (α := List Int) (((sqR t24 ((thR t3 t4 t2 w2).getD [])).getD (0, 0, 0, [])).2.2.2) with
                      | some w6 => some (.tup [.a (.int .i64 w3), .a (.int .i64 w4), .a (.int .i64 w5), .a (.bool true)], [])
                      | none => none)
                    | none => none)
                  | none => none)
                | none => none)
              | false => none)
            | false => none)
          | none => none)
        | false => none)
      | false => none)
    | none => none)
  | false => none) := by
  kernel_rfl
theorem end_sxS30_0 {R : Type} (N M : Nat) (K : X → St → Option R) (t0 : Int) (t1 : Int) (t2 : Int) (t3 : Int) (t4 : Int) (t5 : Int) (t22 : Int) (t24 : Int) (t25 : Int) (b0_0 : Int) (b0_1 : Int) (b0_2 : Int) (b0_3 : Int) (b1_0 : Int) (b1_1 : Int) (b1_2 : Int) (l2 : List Int) : kt_sxS30 N (bk_sxS25 N M K) (.exit 8) (en_sxS30_0 t0 t1 t2 t3 t4 t5 t22 t24 t25 b0_0 b0_1 b0_2 b0_3 b1_0 b1_1 b1_2 l2)
    = lp_sxS35 N N (st_sxS35 t0 t1 t2 t3 t4 t5 t22 t24 t25 0 b0_0 b0_1 b0_2 b0_3 b1_0 b1_1 b1_2 l2) (kt_sxS35 N (bk_sxS25 N M K)) := by
  kernel_rfl
theorem end_sxS35_0 {R : Type} (N M : Nat) (K : X → St → Option R) (t0 : Int) (t1 : Int) (t2 : Int) (t3 : Int) (t4 : Int) (t5 : Int) (t22 : Int) (t24 : Int) (t25 : Int) (b0_0 : Int) (b0_1 : Int) (b0_2 : Int) (b0_3 : Int) (b1_0 : Int) (b1_1 : Int) (b1_2 : Int) (l2 : List Int) : kt_sxS35 N (bk_sxS25 N M K) (.exit 10) (en_sxS35_0 t0 t1 t2 t3 t4 t5 t22 t24 t25 b0_0 b0_1 b0_2 b0_3 b1_0 b1_1 b1_2 l2)
    = lp_sxS41 N N (st_sxS41 t0 t1 t2 t3 t4 t5 t22 t24 t25 1 0 b0_0 b0_1 b0_2 b0_3 b1_0 b1_1 b1_2 l2) (kt_sxS41 N (bk_sxS25 N M K)) := by
  kernel_rfl
theorem end_sxS44_0 {R : Type} (N M : Nat) (K : X → St → Option R) (t0 : Int) (t1 : Int) (t2 : Int) (t3 : Int) (t4 : Int) (t5 : Int) (t22 : Int) (t24 : Int) (t25 : Int) (t29 : Int) (t195 : Int) (b0_0 : Int) (b0_1 : Int) (b0_2 : Int) (b0_3 : Int) (b1_0 : Int) (b1_1 : Int) (b1_2 : Int) (l2 : List Int) : kt_sxS44 N (bk_sxS41 N M K) (.exit 14) (en_sxS44_0 t0 t1 t2 t3 t4 t5 t22 t24 t25 t29 t195 b0_0 b0_1 b0_2 b0_3 b1_0 b1_1 b1_2 l2)
    = lp_sxS41 N M (st_sxS41 t0 t1 t2 t3 t4 t5 t22 t24 t25 t29 (IntKind.i64.wrap (t195 + 1)) b0_0 b0_1 b0_2 b0_3 b1_0 b1_1 b1_2 l2) K := by
  kernel_rfl
theorem end_sxS41_0 {R : Type} (N M : Nat) (K : X → St → Option R) (t0 : Int) (t1 : Int) (t2 : Int) (t3 : Int) (t4 : Int) (t5 : Int) (t22 : Int) (t24 : Int) (t25 : Int) (t29 : Int) (b0_0 : Int) (b0_1 : Int) (b0_2 : Int) (b0_3 : Int) (b1_0 : Int) (b1_1 : Int) (b1_2 : Int) : kt_sxS41 N (bk_sxS25 N M K) (.exit 12) (en_sxS41_0 t0 t1 t2 t3 t4 t5 t22 t24 t25 t29 b0_0 b0_1 b0_2 b0_3 b1_0 b1_1 b1_2)
    = (match (Int.tmod t25 2) == 1 with
  | true => lp_sxS25 N M (st_sxS25 t0 t1 t2 t3 t4 t5 t22 (IntKind.i64.wrap (t24 + (IntKind.i64.wrap (0 - t29)))) (IntKind.i64.wrap (t25 + 1)) b0_0 b0_1 b0_2 b0_3 b1_0 b1_1 b1_2) K
  | false => lp_sxS25 N M (st_sxS25 t0 t1 t2 t3 t4 t5 t22 (IntKind.i64.wrap (t24 + t29)) (IntKind.i64.wrap (t25 + 1)) b0_0 b0_1 b0_2 b0_3 b1_0 b1_1 b1_2) K) := by
  kernel_rfl

noncomputable def ce_sxS44_0 (N : Nat) (g : Int → Int → Int → Int → Int → Int → Int → Int → Int → Int → Int → Int → Int → Int → Int → Int → Int → Int → List Int → Option (V × H)) (q0 : Int → Int → Int → Int → Int → Int → Int → Int → Int → Int → Int → Int → Int → Int → Int → Int → Int → Option (V × H)) (t0 : Int) (t1 : Int) (t2 : Int) (t3 : Int) (t4 : Int) (t5 : Int) (t22 : Int) (t24 : Int) (t25 : Int) (t29 : Int) (t195 : Int) (b0_0 : Int) (b0_1 : Int) (b0_2 : Int) (b0_3 : Int) (b1_0 : Int) (b1_1 : Int) (b1_2 : Int) (l2 : List Int) : Option (V × H) := (g t0 t1 t2 t3 t4 t5 t22 t24 t25 t29 (IntKind.i64.wrap (t195 + 1)) b0_0 b0_1 b0_2 b0_3 b1_0 b1_1 b1_2 l2)
noncomputable def mr_sxS44 (N : Nat) (k0 : Int → Int → Int → Int → Int → Int → Int → Int → Int → Int → Int → Int → Int → Int → Int → Int → Int → Int → List Int → Option (V × H)) (M : Nat) : Int → Int → Int → Int → Int → Int → Int → Int → Int → Int → Int → Int → Int → Int → Int → Int → Int → Int → Int → List Int → Option (V × H) := Nat.rec (motive := fun _ => Int → Int → Int → Int → Int → Int → Int → Int → Int → Int → Int → Int → Int → Int → Int → Int → Int → Int → Int → List Int → Option (V × H)) (fun (_ : Int) (_ : Int) (_ : Int) (_ : Int) (_ : Int) (_ : Int) (_ : Int) (_ : Int) (_ : Int) (_ : Int) (_ : Int) (_ : Int) (_ : Int) (_ : Int) (_ : Int) (_ : Int) (_ : Int) (_ : Int) (_ : Int) (_ : List Int) => none) (fun _ rq => fun (t0 : Int) (t1 : Int) (t2 : Int) (t3 : Int) (t4 : Int) (t5 : Int) (t22 : Int) (t24 : Int) (t25 : Int) (t29 : Int) (t30 : Int) (t31 : Int) (b0_0 : Int) (b0_1 : Int) (b0_2 : Int) (b0_3 : Int) (b1_0 : Int) (b1_1 : Int) (b1_2 : Int) (l2 : List Int) => (match decide ((t31 : Int) > 0) with
  | true => (rq t0 t1 t2 t3 t4 t5 t22 t24 t25 (IntKind.i64.wrap (t29 * t30)) t30 (IntKind.i64.wrap (t31 - 1)) b0_0 b0_1 b0_2 b0_3 b1_0 b1_1 b1_2 l2)
  | false => (k0 t0 t1 t2 t3 t4 t5 t22 t24 t25 t29 t30 b0_0 b0_1 b0_2 b0_3 b1_0 b1_1 b1_2 l2))) M
theorem mrs_sxS44 (N : Nat) (k0 : Int → Int → Int → Int → Int → Int → Int → Int → Int → Int → Int → Int → Int → Int → Int → Int → Int → Int → List Int → Option (V × H)) (M : Nat) (t0 : Int) (t1 : Int) (t2 : Int) (t3 : Int) (t4 : Int) (t5 : Int) (t22 : Int) (t24 : Int) (t25 : Int) (t29 : Int) (t30 : Int) (t31 : Int) (b0_0 : Int) (b0_1 : Int) (b0_2 : Int) (b0_3 : Int) (b1_0 : Int) (b1_1 : Int) (b1_2 : Int) (l2 : List Int) : mr_sxS44 N k0 (M + 1) t0 t1 t2 t3 t4 t5 t22 t24 t25 t29 t30 t31 b0_0 b0_1 b0_2 b0_3 b1_0 b1_1 b1_2 l2 = (match decide ((t31 : Int) > 0) with
  | true => (mr_sxS44 N k0 M t0 t1 t2 t3 t4 t5 t22 t24 t25 (IntKind.i64.wrap (t29 * t30)) t30 (IntKind.i64.wrap (t31 - 1)) b0_0 b0_1 b0_2 b0_3 b1_0 b1_1 b1_2 l2)
  | false => (k0 t0 t1 t2 t3 t4 t5 t22 t24 t25 t29 t30 b0_0 b0_1 b0_2 b0_3 b1_0 b1_1 b1_2 l2)) := by kernel_rfl
theorem H_sxS44 (N : Nat) (Mp : Nat) (K : X → St → Option (V × H)) (g : Int → Int → Int → Int → Int → Int → Int → Int → Int → Int → Int → Int → Int → Int → Int → Int → Int → Int → List Int → Option (V × H)) (q0 : Int → Int → Int → Int → Int → Int → Int → Int → Int → Int → Int → Int → Int → Int → Int → Int → Int → Option (V × H)) (hg : ∀ (t0 : Int) (t1 : Int) (t2 : Int) (t3 : Int) (t4 : Int) (t5 : Int) (t22 : Int) (t24 : Int) (t25 : Int) (t29 : Int) (t195 : Int) (b0_0 : Int) (b0_1 : Int) (b0_2 : Int) (b0_3 : Int) (b1_0 : Int) (b1_1 : Int) (b1_2 : Int) (l2 : List Int), lp_sxS41 N Mp (st_sxS41 t0 t1 t2 t3 t4 t5 t22 t24 t25 t29 t195 b0_0 b0_1 b0_2 b0_3 b1_0 b1_1 b1_2 l2) K = g t0 t1 t2 t3 t4 t5 t22 t24 t25 t29 t195 b0_0 b0_1 b0_2 b0_3 b1_0 b1_1 b1_2 l2) (hk0 : ∀ (t0 : Int) (t1 : Int) (t2 : Int) (t3 : Int) (t4 : Int) (t5 : Int) (t22 : Int) (t24 : Int) (t25 : Int) (t29 : Int) (b0_0 : Int) (b0_1 : Int) (b0_2 : Int) (b0_3 : Int) (b1_0 : Int) (b1_1 : Int) (b1_2 : Int), K (.exit 12) (en_sxS41_0 t0 t1 t2 t3 t4 t5 t22 t24 t25 t29 b0_0 b0_1 b0_2 b0_3 b1_0 b1_1 b1_2) = q0 t0 t1 t2 t3 t4 t5 t22 t24 t25 t29 b0_0 b0_1 b0_2 b0_3 b1_0 b1_1 b1_2) : ∀ (M : Nat) (t0 : Int) (t1 : Int) (t2 : Int) (t3 : Int) (t4 : Int) (t5 : Int) (t22 : Int) (t24 : Int) (t25 : Int) (t29 : Int) (t30 : Int) (t31 : Int) (b0_0 : Int) (b0_1 : Int) (b0_2 : Int) (b0_3 : Int) (b1_0 : Int) (b1_1 : Int) (b1_2 : Int) (l2 : List Int), lp_sxS44 N M (st_sxS44 t0 t1 t2 t3 t4 t5 t22 t24 t25 t29 t30 t31 b0_0 b0_1 b0_2 b0_3 b1_0 b1_1 b1_2 l2) (kt_sxS44 N (bk_sxS41 N Mp K)) = mr_sxS44 N (ce_sxS44_0 N g q0) M t0 t1 t2 t3 t4 t5 t22 t24 t25 t29 t30 t31 b0_0 b0_1 b0_2 b0_3 b1_0 b1_1 b1_2 l2 := by
  have he0 : ∀ (t0 : Int) (t1 : Int) (t2 : Int) (t3 : Int) (t4 : Int) (t5 : Int) (t22 : Int) (t24 : Int) (t25 : Int) (t29 : Int) (t195 : Int) (b0_0 : Int) (b0_1 : Int) (b0_2 : Int) (b0_3 : Int) (b1_0 : Int) (b1_1 : Int) (b1_2 : Int) (l2 : List Int), kt_sxS44 N (bk_sxS41 N Mp K) (.exit 14) (en_sxS44_0 t0 t1 t2 t3 t4 t5 t22 t24 t25 t29 t195 b0_0 b0_1 b0_2 b0_3 b1_0 b1_1 b1_2 l2) = ce_sxS44_0 N g q0 t0 t1 t2 t3 t4 t5 t22 t24 t25 t29 t195 b0_0 b0_1 b0_2 b0_3 b1_0 b1_1 b1_2 l2 := by
    intro t0 t1 t2 t3 t4 t5 t22 t24 t25 t29 t195 b0_0 b0_1 b0_2 b0_3 b1_0 b1_1 b1_2 l2
    rw [end_sxS44_0]
    unfold ce_sxS44_0
    first | simp only [hg, hk0] | rfl
  intro M
  induction M with
  | zero => intros; rfl
  | succ M ih =>
    intro t0 t1 t2 t3 t4 t5 t22 t24 t25 t29 t30 t31 b0_0 b0_1 b0_2 b0_3 b1_0 b1_1 b1_2 l2
    rw [step_sxS44]
    rw [mrs_sxS44]
    first | simp only [ih, he0] | rfl
noncomputable def ce_sxS41_0 (N : Nat) (g : Int → Int → Int → Int → Int → Int → Int → Int → Int → Int → Int → Int → Int → Int → Int → Int → Option (V × H)) (q0 : Int → Int → Int → Int → Int → Int → Int → Option (V × H)) (t0 : Int) (t1 : Int) (t2 : Int) (t3 : Int) (t4 : Int) (t5 : Int) (t22 : Int) (t24 : Int) (t25 : Int) (t29 : Int) (b0_0 : Int) (b0_1 : Int) (b0_2 : Int) (b0_3 : Int) (b1_0 : Int) (b1_1 : Int) (b1_2 : Int) : Option (V × H) := (match (Int.tmod t25 2) == 1 with
  | true => (g t0 t1 t2 t3 t4 t5 t22 (IntKind.i64.wrap (t24 + (IntKind.i64.wrap (0 - t29)))) (IntKind.i64.wrap (t25 + 1)) b0_0 b0_1 b0_2 b0_3 b1_0 b1_1 b1_2)
  | false => (g t0 t1 t2 t3 t4 t5 t22 (IntKind.i64.wrap (t24 + t29)) (IntKind.i64.wrap (t25 + 1)) b0_0 b0_1 b0_2 b0_3 b1_0 b1_1 b1_2))
noncomputable def mr_sxS41 (N : Nat) (k0 : Int → Int → Int → Int → Int → Int → Int → Int → Int → Int → Int → Int → Int → Int → Int → Int → Int → Option (V × H)) (M : Nat) : Int → Int → Int → Int → Int → Int → Int → Int → Int → Int → Int → Int → Int → Int → Int → Int → Int → Int → List Int → Option (V × H) := Nat.rec (motive := fun _ => Int → Int → Int → Int → Int → Int → Int → Int → Int → Int → Int → Int → Int → Int → Int → Int → Int → Int → List Int → Option (V × H)) (fun (_ : Int) (_ : Int) (_ : Int) (_ : Int) (_ : Int) (_ : Int) (_ : Int) (_ : Int) (_ : Int) (_ : Int) (_ : Int) (_ : Int) (_ : Int) (_ : Int) (_ : Int) (_ : Int) (_ : Int) (_ : Int) (_ : List Int) => none) (fun _ rq => fun (t0 : Int) (t1 : Int) (t2 : Int) (t3 : Int) (t4 : Int) (t5 : Int) (t22 : Int) (t24 : Int) (t25 : Int) (t29 : Int) (t195 : Int) (b0_0 : Int) (b0_1 : Int) (b0_2 : Int) (b0_3 : Int) (b1_0 : Int) (b1_1 : Int) (b1_2 : Int) (l2 : List Int) => (match decide ((t195 : Int) < 14) with
  | true => (match decide (0 ≤ (t195 : Int) ∧ (t195 : Int) < 14) with
    | true => (match l2[0 + (t195).toNat * 1]? with
      | some e1 => (mr_sxS44 N (ce_sxS44_0 N (fun t0 t1 t2 t3 t4 t5 t22 t24 t25 t29 t195 b0_0 b0_1 b0_2 b0_3 b1_0 b1_1 b1_2 l2 => rq t0 t1 t2 t3 t4 t5 t22 t24 t25 t29 t195 b0_0 b0_1 b0_2 b0_3 b1_0 b1_1 b1_2 l2) k0) N t0 t1 t2 t3 t4 t5 t22 t24 t25 t29 t195 e1 b0_0 b0_1 b0_2 b0_3 b1_0 b1_1 b1_2 l2)
      | none => none)
    | false => none)
  | false => (k0 t0 t1 t2 t3 t4 t5 t22 t24 t25 t29 b0_0 b0_1 b0_2 b0_3 b1_0 b1_1 b1_2))) M
theorem mrs_sxS41 (N : Nat) (k0 : Int → Int → Int → Int → Int → Int → Int → Int → Int → Int → Int → Int → Int → Int → Int → Int → Int → Option (V × H)) (M : Nat) (t0 : Int) (t1 : Int) (t2 : Int) (t3 : Int) (t4 : Int) (t5 : Int) (t22 : Int) (t24 : Int) (t25 : Int) (t29 : Int) (t195 : Int) (b0_0 : Int) (b0_1 : Int) (b0_2 : Int) (b0_3 : Int) (b1_0 : Int) (b1_1 : Int) (b1_2 : Int) (l2 : List Int) : mr_sxS41 N k0 (M + 1) t0 t1 t2 t3 t4 t5 t22 t24 t25 t29 t195 b0_0 b0_1 b0_2 b0_3 b1_0 b1_1 b1_2 l2 = (match decide ((t195 : Int) < 14) with
  | true => (match decide (0 ≤ (t195 : Int) ∧ (t195 : Int) < 14) with
    | true => (match l2[0 + (t195).toNat * 1]? with
      | some e1 => (mr_sxS44 N (ce_sxS44_0 N (fun t0 t1 t2 t3 t4 t5 t22 t24 t25 t29 t195 b0_0 b0_1 b0_2 b0_3 b1_0 b1_1 b1_2 l2 => mr_sxS41 N k0 M t0 t1 t2 t3 t4 t5 t22 t24 t25 t29 t195 b0_0 b0_1 b0_2 b0_3 b1_0 b1_1 b1_2 l2) k0) N t0 t1 t2 t3 t4 t5 t22 t24 t25 t29 t195 e1 b0_0 b0_1 b0_2 b0_3 b1_0 b1_1 b1_2 l2)
      | none => none)
    | false => none)
  | false => (k0 t0 t1 t2 t3 t4 t5 t22 t24 t25 t29 b0_0 b0_1 b0_2 b0_3 b1_0 b1_1 b1_2)) := by kernel_rfl
theorem H_sxS41 (N : Nat) (Mp : Nat) (K : X → St → Option (V × H)) (g : Int → Int → Int → Int → Int → Int → Int → Int → Int → Int → Int → Int → Int → Int → Int → Int → Option (V × H)) (q0 : Int → Int → Int → Int → Int → Int → Int → Option (V × H)) (hg : ∀ (t0 : Int) (t1 : Int) (t2 : Int) (t3 : Int) (t4 : Int) (t5 : Int) (t22 : Int) (t24 : Int) (t25 : Int) (b0_0 : Int) (b0_1 : Int) (b0_2 : Int) (b0_3 : Int) (b1_0 : Int) (b1_1 : Int) (b1_2 : Int), lp_sxS25 N Mp (st_sxS25 t0 t1 t2 t3 t4 t5 t22 t24 t25 b0_0 b0_1 b0_2 b0_3 b1_0 b1_1 b1_2) K = g t0 t1 t2 t3 t4 t5 t22 t24 t25 b0_0 b0_1 b0_2 b0_3 b1_0 b1_1 b1_2) (hk0 : ∀ (t0 : Int) (t1 : Int) (t2 : Int) (t3 : Int) (t4 : Int) (t5 : Int) (t24 : Int), K (.exit 6) (en_sxS25_0 t0 t1 t2 t3 t4 t5 t24) = q0 t0 t1 t2 t3 t4 t5 t24) : ∀ (M : Nat) (t0 : Int) (t1 : Int) (t2 : Int) (t3 : Int) (t4 : Int) (t5 : Int) (t22 : Int) (t24 : Int) (t25 : Int) (t29 : Int) (t195 : Int) (b0_0 : Int) (b0_1 : Int) (b0_2 : Int) (b0_3 : Int) (b1_0 : Int) (b1_1 : Int) (b1_2 : Int) (l2 : List Int), lp_sxS41 N M (st_sxS41 t0 t1 t2 t3 t4 t5 t22 t24 t25 t29 t195 b0_0 b0_1 b0_2 b0_3 b1_0 b1_1 b1_2 l2) (kt_sxS41 N (bk_sxS25 N Mp K)) = mr_sxS41 N (ce_sxS41_0 N g q0) M t0 t1 t2 t3 t4 t5 t22 t24 t25 t29 t195 b0_0 b0_1 b0_2 b0_3 b1_0 b1_1 b1_2 l2 := by
  have he0 : ∀ (t0 : Int) (t1 : Int) (t2 : Int) (t3 : Int) (t4 : Int) (t5 : Int) (t22 : Int) (t24 : Int) (t25 : Int) (t29 : Int) (b0_0 : Int) (b0_1 : Int) (b0_2 : Int) (b0_3 : Int) (b1_0 : Int) (b1_1 : Int) (b1_2 : Int), kt_sxS41 N (bk_sxS25 N Mp K) (.exit 12) (en_sxS41_0 t0 t1 t2 t3 t4 t5 t22 t24 t25 t29 b0_0 b0_1 b0_2 b0_3 b1_0 b1_1 b1_2) = ce_sxS41_0 N g q0 t0 t1 t2 t3 t4 t5 t22 t24 t25 t29 b0_0 b0_1 b0_2 b0_3 b1_0 b1_1 b1_2 := by
    intro t0 t1 t2 t3 t4 t5 t22 t24 t25 t29 b0_0 b0_1 b0_2 b0_3 b1_0 b1_1 b1_2
    rw [end_sxS41_0]
    unfold ce_sxS41_0
    first | simp only [hg, hk0] | rfl
  intro M
  induction M with
  | zero => intros; rfl
  | succ M ih =>
    intro t0 t1 t2 t3 t4 t5 t22 t24 t25 t29 t195 b0_0 b0_1 b0_2 b0_3 b1_0 b1_1 b1_2 l2
    rw [step_sxS41]
    have hc44 := H_sxS44 N M (kt_sxS41 N (bk_sxS25 N Mp K)) (fun t0 t1 t2 t3 t4 t5 t22 t24 t25 t29 t195 b0_0 b0_1 b0_2 b0_3 b1_0 b1_1 b1_2 l2 => mr_sxS41 N (ce_sxS41_0 N g q0) M t0 t1 t2 t3 t4 t5 t22 t24 t25 t29 t195 b0_0 b0_1 b0_2 b0_3 b1_0 b1_1 b1_2 l2) (ce_sxS41_0 N g q0) (fun t0 t1 t2 t3 t4 t5 t22 t24 t25 t29 t195 b0_0 b0_1 b0_2 b0_3 b1_0 b1_1 b1_2 l2 => ih t0 t1 t2 t3 t4 t5 t22 t24 t25 t29 t195 b0_0 b0_1 b0_2 b0_3 b1_0 b1_1 b1_2 l2) he0
    rw [mrs_sxS41]
    first | simp only [ih, he0, hc44 N] | rfl
noncomputable def ce_sxS35_0 (N : Nat) (g : Int → Int → Int → Int → Int → Int → Int → Int → Int → Int → Int → Int → Int → Int → Int → Int → Option (V × H)) (q0 : Int → Int → Int → Int → Int → Int → Int → Option (V × H)) (t0 : Int) (t1 : Int) (t2 : Int) (t3 : Int) (t4 : Int) (t5 : Int) (t22 : Int) (t24 : Int) (t25 : Int) (b0_0 : Int) (b0_1 : Int) (b0_2 : Int) (b0_3 : Int) (b1_0 : Int) (b1_1 : Int) (b1_2 : Int) (l2 : List Int) : Option (V × H) := (mr_sxS41 N (ce_sxS41_0 N g q0) N t0 t1 t2 t3 t4 t5 t22 t24 t25 1 0 b0_0 b0_1 b0_2 b0_3 b1_0 b1_1 b1_2 l2)
noncomputable def mr_sxS35 (N : Nat) (k0 : Int → Int → Int → Int → Int → Int → Int → Int → Int → Int → Int → Int → Int → Int → Int → Int → List Int → Option (V × H)) (M : Nat) : Int → Int → Int → Int → Int → Int → Int → Int → Int → Int → Int → Int → Int → Int → Int → Int → Int → List Int → Option (V × H) := Nat.rec (motive := fun _ => Int → Int → Int → Int → Int → Int → Int → Int → Int → Int → Int → Int → Int → Int → Int → Int → Int → List Int → Option (V × H)) (fun (_ : Int) (_ : Int) (_ : Int) (_ : Int) (_ : Int) (_ : Int) (_ : Int) (_ : Int) (_ : Int) (_ : Int) (_ : Int) (_ : Int) (_ : Int) (_ : Int) (_ : Int) (_ : Int) (_ : Int) (_ : List Int) => none) (fun _ rq => fun (t0 : Int) (t1 : Int) (t2 : Int) (t3 : Int) (t4 : Int) (t5 : Int) (t22 : Int) (t24 : Int) (t25 : Int) (t183 : Int) (b0_0 : Int) (b0_1 : Int) (b0_2 : Int) (b0_3 : Int) (b1_0 : Int) (b1_1 : Int) (b1_2 : Int) (l2 : List Int) => (match decide ((t183 : Int) < 3) with
  | true => (match decide (0 ≤ (t183 : Int) ∧ (t183 : Int) < 3) with
    | true => (match [b1_0, b1_1, b1_2][0 + (t183).toNat * 1]? with
      | some e1 => (match (flR (IntKind.i64.wrap (e1 - t25)) (-1) l2).isSome with
        | true => (match nmO (α := List Int) (((flR (IntKind.i64.wrap (e1 - t25)) (-1) l2).getD [])) with
          | some w2 => (rq t0 t1 t2 t3 t4 t5 t22 t24 t25 (IntKind.i64.wrap (t183 + 1)) b0_0 b0_1 b0_2 b0_3 b1_0 b1_1 b1_2 w2)
          | none => none)
        | false => none)
      | none => none)
    | false => none)
  | false => (k0 t0 t1 t2 t3 t4 t5 t22 t24 t25 b0_0 b0_1 b0_2 b0_3 b1_0 b1_1 b1_2 l2))) M
theorem mrs_sxS35 (N : Nat) (k0 : Int → Int → Int → Int → Int → Int → Int → Int → Int → Int → Int → Int → Int → Int → Int → Int → List Int → Option (V × H)) (M : Nat) (t0 : Int) (t1 : Int) (t2 : Int) (t3 : Int) (t4 : Int) (t5 : Int) (t22 : Int) (t24 : Int) (t25 : Int) (t183 : Int) (b0_0 : Int) (b0_1 : Int) (b0_2 : Int) (b0_3 : Int) (b1_0 : Int) (b1_1 : Int) (b1_2 : Int) (l2 : List Int) : mr_sxS35 N k0 (M + 1) t0 t1 t2 t3 t4 t5 t22 t24 t25 t183 b0_0 b0_1 b0_2 b0_3 b1_0 b1_1 b1_2 l2 = (match decide ((t183 : Int) < 3) with
  | true => (match decide (0 ≤ (t183 : Int) ∧ (t183 : Int) < 3) with
    | true => (match [b1_0, b1_1, b1_2][0 + (t183).toNat * 1]? with
      | some e1 => (match (flR (IntKind.i64.wrap (e1 - t25)) (-1) l2).isSome with
        | true => (match nmO (α := List Int) (((flR (IntKind.i64.wrap (e1 - t25)) (-1) l2).getD [])) with
          | some w2 => (mr_sxS35 N k0 M t0 t1 t2 t3 t4 t5 t22 t24 t25 (IntKind.i64.wrap (t183 + 1)) b0_0 b0_1 b0_2 b0_3 b1_0 b1_1 b1_2 w2)
          | none => none)
        | false => none)
      | none => none)
    | false => none)
  | false => (k0 t0 t1 t2 t3 t4 t5 t22 t24 t25 b0_0 b0_1 b0_2 b0_3 b1_0 b1_1 b1_2 l2)) := by kernel_rfl
theorem H_sxS35 (N : Nat) (Mp : Nat) (K : X → St → Option (V × H)) (g : Int → Int → Int → Int → Int → Int → Int → Int → Int → Int → Int → Int → Int → Int → Int → Int → Option (V × H)) (q0 : Int → Int → Int → Int → Int → Int → Int → Option (V × H)) (hg : ∀ (t0 : Int) (t1 : Int) (t2 : Int) (t3 : Int) (t4 : Int) (t5 : Int) (t22 : Int) (t24 : Int) (t25 : Int) (b0_0 : Int) (b0_1 : Int) (b0_2 : Int) (b0_3 : Int) (b1_0 : Int) (b1_1 : Int) (b1_2 : Int), lp_sxS25 N Mp (st_sxS25 t0 t1 t2 t3 t4 t5 t22 t24 t25 b0_0 b0_1 b0_2 b0_3 b1_0 b1_1 b1_2) K = g t0 t1 t2 t3 t4 t5 t22 t24 t25 b0_0 b0_1 b0_2 b0_3 b1_0 b1_1 b1_2) (hk0 : ∀ (t0 : Int) (t1 : Int) (t2 : Int) (t3 : Int) (t4 : Int) (t5 : Int) (t24 : Int), K (.exit 6) (en_sxS25_0 t0 t1 t2 t3 t4 t5 t24) = q0 t0 t1 t2 t3 t4 t5 t24) : ∀ (M : Nat) (t0 : Int) (t1 : Int) (t2 : Int) (t3 : Int) (t4 : Int) (t5 : Int) (t22 : Int) (t24 : Int) (t25 : Int) (t183 : Int) (b0_0 : Int) (b0_1 : Int) (b0_2 : Int) (b0_3 : Int) (b1_0 : Int) (b1_1 : Int) (b1_2 : Int) (l2 : List Int), lp_sxS35 N M (st_sxS35 t0 t1 t2 t3 t4 t5 t22 t24 t25 t183 b0_0 b0_1 b0_2 b0_3 b1_0 b1_1 b1_2 l2) (kt_sxS35 N (bk_sxS25 N Mp K)) = mr_sxS35 N (ce_sxS35_0 N g q0) M t0 t1 t2 t3 t4 t5 t22 t24 t25 t183 b0_0 b0_1 b0_2 b0_3 b1_0 b1_1 b1_2 l2 := by
  have he0 : ∀ (t0 : Int) (t1 : Int) (t2 : Int) (t3 : Int) (t4 : Int) (t5 : Int) (t22 : Int) (t24 : Int) (t25 : Int) (b0_0 : Int) (b0_1 : Int) (b0_2 : Int) (b0_3 : Int) (b1_0 : Int) (b1_1 : Int) (b1_2 : Int) (l2 : List Int), kt_sxS35 N (bk_sxS25 N Mp K) (.exit 10) (en_sxS35_0 t0 t1 t2 t3 t4 t5 t22 t24 t25 b0_0 b0_1 b0_2 b0_3 b1_0 b1_1 b1_2 l2) = ce_sxS35_0 N g q0 t0 t1 t2 t3 t4 t5 t22 t24 t25 b0_0 b0_1 b0_2 b0_3 b1_0 b1_1 b1_2 l2 := by
    intro t0 t1 t2 t3 t4 t5 t22 t24 t25 b0_0 b0_1 b0_2 b0_3 b1_0 b1_1 b1_2 l2
    rw [end_sxS35_0]
    unfold ce_sxS35_0
    first | simp only [hg, hk0, H_sxS41 N Mp K g q0 hg hk0 N] | rfl
  intro M
  induction M with
  | zero => intros; rfl
  | succ M ih =>
    intro t0 t1 t2 t3 t4 t5 t22 t24 t25 t183 b0_0 b0_1 b0_2 b0_3 b1_0 b1_1 b1_2 l2
    rw [step_sxS35]
    rw [mrs_sxS35]
    first | simp only [ih, he0] | rfl
noncomputable def ce_sxS30_0 (N : Nat) (g : Int → Int → Int → Int → Int → Int → Int → Int → Int → Int → Int → Int → Int → Int → Int → Int → Option (V × H)) (q0 : Int → Int → Int → Int → Int → Int → Int → Option (V × H)) (t0 : Int) (t1 : Int) (t2 : Int) (t3 : Int) (t4 : Int) (t5 : Int) (t22 : Int) (t24 : Int) (t25 : Int) (b0_0 : Int) (b0_1 : Int) (b0_2 : Int) (b0_3 : Int) (b1_0 : Int) (b1_1 : Int) (b1_2 : Int) (l2 : List Int) : Option (V × H) := (mr_sxS35 N (ce_sxS35_0 N g q0) N t0 t1 t2 t3 t4 t5 t22 t24 t25 0 b0_0 b0_1 b0_2 b0_3 b1_0 b1_1 b1_2 l2)
noncomputable def mr_sxS30 (N : Nat) (k0 : Int → Int → Int → Int → Int → Int → Int → Int → Int → Int → Int → Int → Int → Int → Int → Int → List Int → Option (V × H)) (M : Nat) : Int → Int → Int → Int → Int → Int → Int → Int → Int → Int → Int → Int → Int → Int → Int → Int → Int → List Int → Option (V × H) := Nat.rec (motive := fun _ => Int → Int → Int → Int → Int → Int → Int → Int → Int → Int → Int → Int → Int → Int → Int → Int → Int → List Int → Option (V × H)) (fun (_ : Int) (_ : Int) (_ : Int) (_ : Int) (_ : Int) (_ : Int) (_ : Int) (_ : Int) (_ : Int) (_ : Int) (_ : Int) (_ : Int) (_ : Int) (_ : Int) (_ : Int) (_ : Int) (_ : Int) (_ : List Int) => none) (fun _ rq => fun (t0 : Int) (t1 : Int) (t2 : Int) (t3 : Int) (t4 : Int) (t5 : Int) (t22 : Int) (t24 : Int) (t25 : Int) (t169 : Int) (b0_0 : Int) (b0_1 : Int) (b0_2 : Int) (b0_3 : Int) (b1_0 : Int) (b1_1 : Int) (b1_2 : Int) (l2 : List Int) => (match decide ((t169 : Int) < 4) with
  | true => (match decide (0 ≤ (t169 : Int) ∧ (t169 : Int) < 4) with
    | true => (match [b0_0, b0_1, b0_2, b0_3][0 + (t169).toNat * 1]? with
      | some e1 => (match (flR (IntKind.i64.wrap (t25 - e1)) (-1) l2).isSome with
        | true => (match nmO (α := List Int) (((flR (IntKind.i64.wrap (t25 - e1)) (-1) l2).getD [])) with
          | some w2 => (rq t0 t1 t2 t3 t4 t5 t22 t24 t25 (IntKind.i64.wrap (t169 + 1)) b0_0 b0_1 b0_2 b0_3 b1_0 b1_1 b1_2 w2)
          | none => none)
        | false => none)
      | none => none)
    | false => none)
  | false => (k0 t0 t1 t2 t3 t4 t5 t22 t24 t25 b0_0 b0_1 b0_2 b0_3 b1_0 b1_1 b1_2 l2))) M
theorem mrs_sxS30 (N : Nat) (k0 : Int → Int → Int → Int → Int → Int → Int → Int → Int → Int → Int → Int → Int → Int → Int → Int → List Int → Option (V × H)) (M : Nat) (t0 : Int) (t1 : Int) (t2 : Int) (t3 : Int) (t4 : Int) (t5 : Int) (t22 : Int) (t24 : Int) (t25 : Int) (t169 : Int) (b0_0 : Int) (b0_1 : Int) (b0_2 : Int) (b0_3 : Int) (b1_0 : Int) (b1_1 : Int) (b1_2 : Int) (l2 : List Int) : mr_sxS30 N k0 (M + 1) t0 t1 t2 t3 t4 t5 t22 t24 t25 t169 b0_0 b0_1 b0_2 b0_3 b1_0 b1_1 b1_2 l2 = (match decide ((t169 : Int) < 4) with
  | true => (match decide (0 ≤ (t169 : Int) ∧ (t169 : Int) < 4) with
    | true => (match [b0_0, b0_1, b0_2, b0_3][0 + (t169).toNat * 1]? with
      | some e1 => (match (flR (IntKind.i64.wrap (t25 - e1)) (-1) l2).isSome with
        | true => (match nmO (α := List Int) (((flR (IntKind.i64.wrap (t25 - e1)) (-1) l2).getD [])) with
          | some w2 => (mr_sxS30 N k0 M t0 t1 t2 t3 t4 t5 t22 t24 t25 (IntKind.i64.wrap (t169 + 1)) b0_0 b0_1 b0_2 b0_3 b1_0 b1_1 b1_2 w2)
          | none => none)
        | false => none)
      | none => none)
    | false => none)
  | false => (k0 t0 t1 t2 t3 t4 t5 t22 t24 t25 b0_0 b0_1 b0_2 b0_3 b1_0 b1_1 b1_2 l2)) := by kernel_rfl
theorem H_sxS30 (N : Nat) (Mp : Nat) (K : X → St → Option (V × H)) (g : Int → Int → Int → Int → Int → Int → Int → Int → Int → Int → Int → Int → Int → Int → Int → Int → Option (V × H)) (q0 : Int → Int → Int → Int → Int → Int → Int → Option (V × H)) (hg : ∀ (t0 : Int) (t1 : Int) (t2 : Int) (t3 : Int) (t4 : Int) (t5 : Int) (t22 : Int) (t24 : Int) (t25 : Int) (b0_0 : Int) (b0_1 : Int) (b0_2 : Int) (b0_3 : Int) (b1_0 : Int) (b1_1 : Int) (b1_2 : Int), lp_sxS25 N Mp (st_sxS25 t0 t1 t2 t3 t4 t5 t22 t24 t25 b0_0 b0_1 b0_2 b0_3 b1_0 b1_1 b1_2) K = g t0 t1 t2 t3 t4 t5 t22 t24 t25 b0_0 b0_1 b0_2 b0_3 b1_0 b1_1 b1_2) (hk0 : ∀ (t0 : Int) (t1 : Int) (t2 : Int) (t3 : Int) (t4 : Int) (t5 : Int) (t24 : Int), K (.exit 6) (en_sxS25_0 t0 t1 t2 t3 t4 t5 t24) = q0 t0 t1 t2 t3 t4 t5 t24) : ∀ (M : Nat) (t0 : Int) (t1 : Int) (t2 : Int) (t3 : Int) (t4 : Int) (t5 : Int) (t22 : Int) (t24 : Int) (t25 : Int) (t169 : Int) (b0_0 : Int) (b0_1 : Int) (b0_2 : Int) (b0_3 : Int) (b1_0 : Int) (b1_1 : Int) (b1_2 : Int) (l2 : List Int), lp_sxS30 N M (st_sxS30 t0 t1 t2 t3 t4 t5 t22 t24 t25 t169 b0_0 b0_1 b0_2 b0_3 b1_0 b1_1 b1_2 l2) (kt_sxS30 N (bk_sxS25 N Mp K)) = mr_sxS30 N (ce_sxS30_0 N g q0) M t0 t1 t2 t3 t4 t5 t22 t24 t25 t169 b0_0 b0_1 b0_2 b0_3 b1_0 b1_1 b1_2 l2 := by
  have he0 : ∀ (t0 : Int) (t1 : Int) (t2 : Int) (t3 : Int) (t4 : Int) (t5 : Int) (t22 : Int) (t24 : Int) (t25 : Int) (b0_0 : Int) (b0_1 : Int) (b0_2 : Int) (b0_3 : Int) (b1_0 : Int) (b1_1 : Int) (b1_2 : Int) (l2 : List Int), kt_sxS30 N (bk_sxS25 N Mp K) (.exit 8) (en_sxS30_0 t0 t1 t2 t3 t4 t5 t22 t24 t25 b0_0 b0_1 b0_2 b0_3 b1_0 b1_1 b1_2 l2) = ce_sxS30_0 N g q0 t0 t1 t2 t3 t4 t5 t22 t24 t25 b0_0 b0_1 b0_2 b0_3 b1_0 b1_1 b1_2 l2 := by
    intro t0 t1 t2 t3 t4 t5 t22 t24 t25 b0_0 b0_1 b0_2 b0_3 b1_0 b1_1 b1_2 l2
    rw [end_sxS30_0]
    unfold ce_sxS30_0
    first | simp only [hg, hk0, H_sxS35 N Mp K g q0 hg hk0 N] | rfl
  intro M
  induction M with
  | zero => intros; rfl
  | succ M ih =>
    intro t0 t1 t2 t3 t4 t5 t22 t24 t25 t169 b0_0 b0_1 b0_2 b0_3 b1_0 b1_1 b1_2 l2
    rw [step_sxS30]
    rw [mrs_sxS30]
    first | simp only [ih, he0] | rfl
noncomputable def ce_sxS25_0 (N : Nat) (t0 : Int) (t1 : Int) (t2 : Int) (t3 : Int) (t4 : Int) (t5 : Int) (t24 : Int) : Option (V × H) := (match (thR t0 t1 t2 [0, 0, 0, 0, 0, 0, 0, 0, 0, 0, 0, 0, 0, 0]).isSome with
  | true => (match nmO (α := List Int) (((thR t0 t1 t2 [0, 0, 0, 0, 0, 0, 0, 0, 0, 0, 0, 0, 0, 0]).getD [])) with
    | some w1 => (match (thR t0 t4 t5 w1).isSome with
      | true => (match (thR t3 t1 t5 ((thR t0 t4 t5 w1).getD [])).isSome with
        | true => (match nmO (α := List Int) (((thR t3 t1 t5 ((thR t0 t4 t5 w1).getD [])).getD [])) with
          | some w2 => (match (thR t3 t4 t2 w2).isSome with
            | true => (match (sqR t24 ((thR t3 t4 t2 w2).getD [])).isSome with
              | true => (match nmO (α := Int) (((sqR t24 ((thR t3 t4 t2 w2).getD [])).getD (0, 0, 0, [])).1) with
                | some w3 => (match nmO (α := Int) (((sqR t24 ((thR t3 t4 t2 w2).getD [])).getD (0, 0, 0, [])).2.1) with
                  | some w4 => (match nmO (α := Int) (((sqR t24 ((thR t3 t4 t2 w2).getD [])).getD (0, 0, 0, [])).2.2.1) with
                    | some w5 => (match nmO (α := List Int) (((sqR t24 ((thR t3 t4 t2 w2).getD [])).getD (0, 0, 0, [])).2.2.2) with
                      | some w6 => some (.tup [.a (.int .i64 w3), .a (.int .i64 w4), .a (.int .i64 w5), .a (.bool true)], [])
                      | none => none)
                    | none => none)
                  | none => none)
                | none => none)
              | false => none)
            | false => none)
          | none => none)
        | false => none)
      | false => none)
    | none => none)
  | false => none)
noncomputable def mr_sxS25 (N : Nat) (k0 : Int → Int → Int → Int → Int → Int → Int → Option (V × H)) (M : Nat) : Int → Int → Int → Int → Int → Int → Int → Int → Int → Int → Int → Int → Int → Int → Int → Int → Option (V × H) := Nat.rec (motive := fun _ => Int → Int → Int → Int → Int → Int → Int → Int → Int → Int → Int → Int → Int → Int → Int → Int → Option (V × H)) (fun (_ : Int) (_ : Int) (_ : Int) (_ : Int) (_ : Int) (_ : Int) (_ : Int) (_ : Int) (_ : Int) (_ : Int) (_ : Int) (_ : Int) (_ : Int) (_ : Int) (_ : Int) (_ : Int) => none) (fun _ rq => fun (t0 : Int) (t1 : Int) (t2 : Int) (t3 : Int) (t4 : Int) (t5 : Int) (t22 : Int) (t24 : Int) (t25 : Int) (b0_0 : Int) (b0_1 : Int) (b0_2 : Int) (b0_3 : Int) (b1_0 : Int) (b1_1 : Int) (b1_2 : Int) => (match decide ((t25 : Int) ≤ t22) with
  | true => (match (flR (IntKind.i64.wrap (t25 + 1)) 1 [0, 0, 0, 0, 0, 0, 0, 0, 0, 0, 0, 0, 0, 0]).isSome with
    | true => (match nmO (α := List Int) (((flR (IntKind.i64.wrap (t25 + 1)) 1 [0, 0, 0, 0, 0, 0, 0, 0, 0, 0, 0, 0, 0, 0]).getD [])) with
      | some w1 => (mr_sxS30 N (ce_sxS30_0 N (fun t0 t1 t2 t3 t4 t5 t22 t24 t25 b0_0 b0_1 b0_2 b0_3 b1_0 b1_1 b1_2 => rq t0 t1 t2 t3 t4 t5 t22 t24 t25 b0_0 b0_1 b0_2 b0_3 b1_0 b1_1 b1_2) k0) N t0 t1 t2 t3 t4 t5 t22 t24 t25 0 b0_0 b0_1 b0_2 b0_3 b1_0 b1_1 b1_2 w1)
      | none => none)
    | false => none)
  | false => (k0 t0 t1 t2 t3 t4 t5 t24))) M
theorem mrs_sxS25 (N : Nat) (k0 : Int → Int → Int → Int → Int → Int → Int → Option (V × H)) (M : Nat) (t0 : Int) (t1 : Int) (t2 : Int) (t3 : Int) (t4 : Int) (t5 : Int) (t22 : Int) (t24 : Int) (t25 : Int) (b0_0 : Int) (b0_1 : Int) (b0_2 : Int) (b0_3 : Int) (b1_0 : Int) (b1_1 : Int) (b1_2 : Int) : mr_sxS25 N k0 (M + 1) t0 t1 t2 t3 t4 t5 t22 t24 t25 b0_0 b0_1 b0_2 b0_3 b1_0 b1_1 b1_2 = (match decide ((t25 : Int) ≤ t22) with
  | true => (match (flR (IntKind.i64.wrap (t25 + 1)) 1 [0, 0, 0, 0, 0, 0, 0, 0, 0, 0, 0, 0, 0, 0]).isSome with
    | true => (match nmO (α := List Int) (((flR (IntKind.i64.wrap (t25 + 1)) 1 [0, 0, 0, 0, 0, 0, 0, 0, 0, 0, 0, 0, 0, 0]).getD [])) with
      | some w1 => (mr_sxS30 N (ce_sxS30_0 N (fun t0 t1 t2 t3 t4 t5 t22 t24 t25 b0_0 b0_1 b0_2 b0_3 b1_0 b1_1 b1_2 => mr_sxS25 N k0 M t0 t1 t2 t3 t4 t5 t22 t24 t25 b0_0 b0_1 b0_2 b0_3 b1_0 b1_1 b1_2) k0) N t0 t1 t2 t3 t4 t5 t22 t24 t25 0 b0_0 b0_1 b0_2 b0_3 b1_0 b1_1 b1_2 w1)
      | none => none)
    | false => none)
  | false => (k0 t0 t1 t2 t3 t4 t5 t24)) := by kernel_rfl
theorem H_sxS25 (N : Nat) : ∀ (M : Nat) (t0 : Int) (t1 : Int) (t2 : Int) (t3 : Int) (t4 : Int) (t5 : Int) (t22 : Int) (t24 : Int) (t25 : Int) (b0_0 : Int) (b0_1 : Int) (b0_2 : Int) (b0_3 : Int) (b1_0 : Int) (b1_1 : Int) (b1_2 : Int), lp_sxS25 N M (st_sxS25 t0 t1 t2 t3 t4 t5 t22 t24 t25 b0_0 b0_1 b0_2 b0_3 b1_0 b1_1 b1_2) (kt_sxS25 N (kEnd Try.f53 0)) = mr_sxS25 N (ce_sxS25_0 N) M t0 t1 t2 t3 t4 t5 t22 t24 t25 b0_0 b0_1 b0_2 b0_3 b1_0 b1_1 b1_2 := by
  have he0 : ∀ (t0 : Int) (t1 : Int) (t2 : Int) (t3 : Int) (t4 : Int) (t5 : Int) (t24 : Int), kt_sxS25 N (kEnd Try.f53 0) (.exit 6) (en_sxS25_0 t0 t1 t2 t3 t4 t5 t24) = ce_sxS25_0 N t0 t1 t2 t3 t4 t5 t24 := by
    intro t0 t1 t2 t3 t4 t5 t24
    rw [end_sxS25_0]
    unfold ce_sxS25_0
    first | simp only [] | rfl
  intro M
  induction M with
  | zero => intros; rfl
  | succ M ih =>
    intro t0 t1 t2 t3 t4 t5 t22 t24 t25 b0_0 b0_1 b0_2 b0_3 b1_0 b1_1 b1_2
    rw [step_sxS25]
    have hc30 := H_sxS30 N M (kt_sxS25 N (kEnd Try.f53 0)) (fun t0 t1 t2 t3 t4 t5 t22 t24 t25 b0_0 b0_1 b0_2 b0_3 b1_0 b1_1 b1_2 => mr_sxS25 N (ce_sxS25_0 N) M t0 t1 t2 t3 t4 t5 t22 t24 t25 b0_0 b0_1 b0_2 b0_3 b1_0 b1_1 b1_2) (ce_sxS25_0 N) (fun t0 t1 t2 t3 t4 t5 t22 t24 t25 b0_0 b0_1 b0_2 b0_3 b1_0 b1_1 b1_2 => ih t0 t1 t2 t3 t4 t5 t22 t24 t25 b0_0 b0_1 b0_2 b0_3 b1_0 b1_1 b1_2) he0
    rw [mrs_sxS25]
    first | simp only [ih, he0, hc30 N] | rfl
noncomputable def ce_sxS19_0 (N : Nat) (t0 : Int) (t1 : Int) (t2 : Int) (t3 : Int) (t4 : Int) (t5 : Int) (t20 : Int) (t22 : Int) (b0_0 : Int) (b0_1 : Int) (b0_2 : Int) (b0_3 : Int) (b1_0 : Int) (b1_1 : Int) (b1_2 : Int) : Option (V × H) := (mr_sxS25 N (ce_sxS25_0 N) N t0 t1 t2 t3 t4 t5 t22 0 t20 b0_0 b0_1 b0_2 b0_3 b1_0 b1_1 b1_2)
noncomputable def mr_sxS19 (N : Nat) (k0 : Int → Int → Int → Int → Int → Int → Int → Int → Int → Int → Int → Int → Int → Int → Int → Option (V × H)) (M : Nat) : Int → Int → Int → Int → Int → Int → Int → Int → Int → Int → Int → Int → Int → Int → Int → Int → Option (V × H) := Nat.rec (motive := fun _ => Int → Int → Int → Int → Int → Int → Int → Int → Int → Int → Int → Int → Int → Int → Int → Int → Option (V × H)) (fun (_ : Int) (_ : Int) (_ : Int) (_ : Int) (_ : Int) (_ : Int) (_ : Int) (_ : Int) (_ : Int) (_ : Int) (_ : Int) (_ : Int) (_ : Int) (_ : Int) (_ : Int) (_ : Int) => none) (fun _ rq => fun (t0 : Int) (t1 : Int) (t2 : Int) (t3 : Int) (t4 : Int) (t5 : Int) (t20 : Int) (t22 : Int) (t145 : Int) (b0_0 : Int) (b0_1 : Int) (b0_2 : Int) (b0_3 : Int) (b1_0 : Int) (b1_1 : Int) (b1_2 : Int) => (match decide ((t145 : Int) < 3) with
  | true => (match decide (0 ≤ (t145 : Int) ∧ (t145 : Int) < 3) with
    | true => (match [b1_0, b1_1, b1_2][0 + (t145).toNat * 1]? with
      | some e1 => (rq t0 t1 t2 t3 t4 t5 t20 (mnI t22 e1) (IntKind.i64.wrap (t145 + 1)) b0_0 b0_1 b0_2 b0_3 b1_0 b1_1 b1_2)
      | none => none)
    | false => none)
  | false => (k0 t0 t1 t2 t3 t4 t5 t20 t22 b0_0 b0_1 b0_2 b0_3 b1_0 b1_1 b1_2))) M
theorem mrs_sxS19 (N : Nat) (k0 : Int → Int → Int → Int → Int → Int → Int → Int → Int → Int → Int → Int → Int → Int → Int → Option (V × H)) (M : Nat) (t0 : Int) (t1 : Int) (t2 : Int) (t3 : Int) (t4 : Int) (t5 : Int) (t20 : Int) (t22 : Int) (t145 : Int) (b0_0 : Int) (b0_1 : Int) (b0_2 : Int) (b0_3 : Int) (b1_0 : Int) (b1_1 : Int) (b1_2 : Int) : mr_sxS19 N k0 (M + 1) t0 t1 t2 t3 t4 t5 t20 t22 t145 b0_0 b0_1 b0_2 b0_3 b1_0 b1_1 b1_2 = (match decide ((t145 : Int) < 3) with
  | true => (match decide (0 ≤ (t145 : Int) ∧ (t145 : Int) < 3) with
    | true => (match [b1_0, b1_1, b1_2][0 + (t145).toNat * 1]? with
      | some e1 => (mr_sxS19 N k0 M t0 t1 t2 t3 t4 t5 t20 (mnI t22 e1) (IntKind.i64.wrap (t145 + 1)) b0_0 b0_1 b0_2 b0_3 b1_0 b1_1 b1_2)
      | none => none)
    | false => none)
  | false => (k0 t0 t1 t2 t3 t4 t5 t20 t22 b0_0 b0_1 b0_2 b0_3 b1_0 b1_1 b1_2)) := by kernel_rfl
theorem H_sxS19 (N : Nat) : ∀ (M : Nat) (t0 : Int) (t1 : Int) (t2 : Int) (t3 : Int) (t4 : Int) (t5 : Int) (t20 : Int) (t22 : Int) (t145 : Int) (b0_0 : Int) (b0_1 : Int) (b0_2 : Int) (b0_3 : Int) (b1_0 : Int) (b1_1 : Int) (b1_2 : Int), lp_sxS19 N M (st_sxS19 t0 t1 t2 t3 t4 t5 t20 t22 t145 b0_0 b0_1 b0_2 b0_3 b1_0 b1_1 b1_2) (kt_sxS19 N (kEnd Try.f53 0)) = mr_sxS19 N (ce_sxS19_0 N) M t0 t1 t2 t3 t4 t5 t20 t22 t145 b0_0 b0_1 b0_2 b0_3 b1_0 b1_1 b1_2 := by
  have he0 : ∀ (t0 : Int) (t1 : Int) (t2 : Int) (t3 : Int) (t4 : Int) (t5 : Int) (t20 : Int) (t22 : Int) (b0_0 : Int) (b0_1 : Int) (b0_2 : Int) (b0_3 : Int) (b1_0 : Int) (b1_1 : Int) (b1_2 : Int), kt_sxS19 N (kEnd Try.f53 0) (.exit 4) (en_sxS19_0 t0 t1 t2 t3 t4 t5 t20 t22 b0_0 b0_1 b0_2 b0_3 b1_0 b1_1 b1_2) = ce_sxS19_0 N t0 t1 t2 t3 t4 t5 t20 t22 b0_0 b0_1 b0_2 b0_3 b1_0 b1_1 b1_2 := by
    intro t0 t1 t2 t3 t4 t5 t20 t22 b0_0 b0_1 b0_2 b0_3 b1_0 b1_1 b1_2
    rw [end_sxS19_0]
    unfold ce_sxS19_0
    first | simp only [H_sxS25 N N] | rfl
  intro M
  induction M with
  | zero => intros; rfl
  | succ M ih =>
    intro t0 t1 t2 t3 t4 t5 t20 t22 t145 b0_0 b0_1 b0_2 b0_3 b1_0 b1_1 b1_2
    rw [step_sxS19]
    rw [mrs_sxS19]
    first | simp only [ih, he0] | rfl
noncomputable def ce_sxS13_0 (N : Nat) (t0 : Int) (t1 : Int) (t2 : Int) (t3 : Int) (t4 : Int) (t5 : Int) (t20 : Int) (b0_0 : Int) (b0_1 : Int) (b0_2 : Int) (b0_3 : Int) (b1_0 : Int) (b1_1 : Int) (b1_2 : Int) : Option (V × H) := (mr_sxS19 N (ce_sxS19_0 N) N t0 t1 t2 t3 t4 t5 t20 b1_0 0 b0_0 b0_1 b0_2 b0_3 b1_0 b1_1 b1_2)
noncomputable def mr_sxS13 (N : Nat) (k0 : Int → Int → Int → Int → Int → Int → Int → Int → Int → Int → Int → Int → Int → Int → Option (V × H)) (M : Nat) : Int → Int → Int → Int → Int → Int → Int → Int → Int → Int → Int → Int → Int → Int → Int → Option (V × H) := Nat.rec (motive := fun _ => Int → Int → Int → Int → Int → Int → Int → Int → Int → Int → Int → Int → Int → Int → Int → Option (V × H)) (fun (_ : Int) (_ : Int) (_ : Int) (_ : Int) (_ : Int) (_ : Int) (_ : Int) (_ : Int) (_ : Int) (_ : Int) (_ : Int) (_ : Int) (_ : Int) (_ : Int) (_ : Int) => none) (fun _ rq => fun (t0 : Int) (t1 : Int) (t2 : Int) (t3 : Int) (t4 : Int) (t5 : Int) (t20 : Int) (t130 : Int) (b0_0 : Int) (b0_1 : Int) (b0_2 : Int) (b0_3 : Int) (b1_0 : Int) (b1_1 : Int) (b1_2 : Int) => (match decide ((t130 : Int) < 4) with
  | true => (match decide (0 ≤ (t130 : Int) ∧ (t130 : Int) < 4) with
    | true => (match [b0_0, b0_1, b0_2, b0_3][0 + (t130).toNat * 1]? with
      | some e1 => (rq t0 t1 t2 t3 t4 t5 (mxI t20 e1) (IntKind.i64.wrap (t130 + 1)) b0_0 b0_1 b0_2 b0_3 b1_0 b1_1 b1_2)
      | none => none)
    | false => none)
  | false => (k0 t0 t1 t2 t3 t4 t5 t20 b0_0 b0_1 b0_2 b0_3 b1_0 b1_1 b1_2))) M
theorem mrs_sxS13 (N : Nat) (k0 : Int → Int → Int → Int → Int → Int → Int → Int → Int → Int → Int → Int → Int → Int → Option (V × H)) (M : Nat) (t0 : Int) (t1 : Int) (t2 : Int) (t3 : Int) (t4 : Int) (t5 : Int) (t20 : Int) (t130 : Int) (b0_0 : Int) (b0_1 : Int) (b0_2 : Int) (b0_3 : Int) (b1_0 : Int) (b1_1 : Int) (b1_2 : Int) : mr_sxS13 N k0 (M + 1) t0 t1 t2 t3 t4 t5 t20 t130 b0_0 b0_1 b0_2 b0_3 b1_0 b1_1 b1_2 = (match decide ((t130 : Int) < 4) with
  | true => (match decide (0 ≤ (t130 : Int) ∧ (t130 : Int) < 4) with
    | true => (match [b0_0, b0_1, b0_2, b0_3][0 + (t130).toNat * 1]? with
      | some e1 => (mr_sxS13 N k0 M t0 t1 t2 t3 t4 t5 (mxI t20 e1) (IntKind.i64.wrap (t130 + 1)) b0_0 b0_1 b0_2 b0_3 b1_0 b1_1 b1_2)
      | none => none)
    | false => none)
  | false => (k0 t0 t1 t2 t3 t4 t5 t20 b0_0 b0_1 b0_2 b0_3 b1_0 b1_1 b1_2)) := by kernel_rfl
theorem H_sxS13 (N : Nat) : ∀ (M : Nat) (t0 : Int) (t1 : Int) (t2 : Int) (t3 : Int) (t4 : Int) (t5 : Int) (t20 : Int) (t130 : Int) (b0_0 : Int) (b0_1 : Int) (b0_2 : Int) (b0_3 : Int) (b1_0 : Int) (b1_1 : Int) (b1_2 : Int), lp_sxS13 N M (st_sxS13 t0 t1 t2 t3 t4 t5 t20 t130 b0_0 b0_1 b0_2 b0_3 b1_0 b1_1 b1_2) (kt_sxS13 N (kEnd Try.f53 0)) = mr_sxS13 N (ce_sxS13_0 N) M t0 t1 t2 t3 t4 t5 t20 t130 b0_0 b0_1 b0_2 b0_3 b1_0 b1_1 b1_2 := by
  have he0 : ∀ (t0 : Int) (t1 : Int) (t2 : Int) (t3 : Int) (t4 : Int) (t5 : Int) (t20 : Int) (b0_0 : Int) (b0_1 : Int) (b0_2 : Int) (b0_3 : Int) (b1_0 : Int) (b1_1 : Int) (b1_2 : Int), kt_sxS13 N (kEnd Try.f53 0) (.exit 2) (en_sxS13_0 t0 t1 t2 t3 t4 t5 t20 b0_0 b0_1 b0_2 b0_3 b1_0 b1_1 b1_2) = ce_sxS13_0 N t0 t1 t2 t3 t4 t5 t20 b0_0 b0_1 b0_2 b0_3 b1_0 b1_1 b1_2 := by
    intro t0 t1 t2 t3 t4 t5 t20 b0_0 b0_1 b0_2 b0_3 b1_0 b1_1 b1_2
    rw [end_sxS13_0]
    unfold ce_sxS13_0
    first | simp only [H_sxS19 N N] | rfl
  intro M
  induction M with
  | zero => intros; rfl
  | succ M ih =>
    intro t0 t1 t2 t3 t4 t5 t20 t130 b0_0 b0_1 b0_2 b0_3 b1_0 b1_1 b1_2
    rw [step_sxS13]
    rw [mrs_sxS13]
    first | simp only [ih, he0] | rfl
noncomputable def ce_sxS2_0 (N : Nat) (t0 : Int) (t1 : Int) (t2 : Int) (t3 : Int) (t4 : Int) (t5 : Int) : Option (V × H) := some (.tup [.a (.int .i64 0), .a (.int .i64 0), .a (.int .i64 0), .a (.bool false)], [])
noncomputable def ce_sxS2_1 (N : Nat) (t0 : Int) (t1 : Int) (t2 : Int) (t3 : Int) (t4 : Int) (t5 : Int) : Option (V × H) := (match !(totS t0 t1 t2) with
  | true => some (.tup [.a (.int .i64 0), .a (.int .i64 0), .a (.int .i64 0), .a (.bool false)], [])
  | false => (match !(totS t0 t4 t5) with
    | true => some (.tup [.a (.int .i64 0), .a (.int .i64 0), .a (.int .i64 0), .a (.bool false)], [])
    | false => (match !(totS t3 t1 t5) with
      | true => some (.tup [.a (.int .i64 0), .a (.int .i64 0), .a (.int .i64 0), .a (.bool false)], [])
      | false => (match !(totS t3 t4 t2) with
        | true => some (.tup [.a (.int .i64 0), .a (.int .i64 0), .a (.int .i64 0), .a (.bool false)], [])
        | false => (mr_sxS13 N (ce_sxS13_0 N) N t0 t1 t2 t3 t4 t5 0 0 (IntKind.i64.wrap (Int.tdiv (IntKind.i64.wrap ((IntKind.i64.wrap (t0 + t1)) + t2)) 2)) (IntKind.i64.wrap (Int.tdiv (IntKind.i64.wrap ((IntKind.i64.wrap (t0 + t4)) + t5)) 2)) (IntKind.i64.wrap (Int.tdiv (IntKind.i64.wrap ((IntKind.i64.wrap (t3 + t1)) + t5)) 2)) (IntKind.i64.wrap (Int.tdiv (IntKind.i64.wrap ((IntKind.i64.wrap (t3 + t4)) + t2)) 2)) (IntKind.i64.wrap (Int.tdiv (IntKind.i64.wrap ((IntKind.i64.wrap ((IntKind.i64.wrap (t0 + t1)) + t3)) + t4)) 2)) (IntKind.i64.wrap (Int.tdiv (IntKind.i64.wrap ((IntKind.i64.wrap ((IntKind.i64.wrap (t1 + t2)) + t4)) + t5)) 2)) (IntKind.i64.wrap (Int.tdiv (IntKind.i64.wrap ((IntKind.i64.wrap ((IntKind.i64.wrap (t0 + t2)) + t3)) + t5)) 2)))))))
noncomputable def mr_sxS2 (N : Nat) (k0 : Int → Int → Int → Int → Int → Int → Option (V × H)) (k1 : Int → Int → Int → Int → Int → Int → Option (V × H)) (M : Nat) : Int → Int → Int → Int → Int → Int → Int → Option (V × H) := Nat.rec (motive := fun _ => Int → Int → Int → Int → Int → Int → Int → Option (V × H)) (fun (_ : Int) (_ : Int) (_ : Int) (_ : Int) (_ : Int) (_ : Int) (_ : Int) => none) (fun _ rq => fun (t0 : Int) (t1 : Int) (t2 : Int) (t3 : Int) (t4 : Int) (t5 : Int) (t44 : Int) => (match decide ((t44 : Int) < 6) with
  | true => (match decide (0 ≤ (t44 : Int) ∧ (t44 : Int) < 6) with
    | true => (match [t0, t1, t2, t3, t4, t5][0 + (t44).toNat * 1]? with
      | some e1 => (match !(is6 e1) with
        | true => (k0 t0 t1 t2 t3 t4 t5)
        | false => (rq t0 t1 t2 t3 t4 t5 (IntKind.i64.wrap (t44 + 1))))
      | none => none)
    | false => none)
  | false => (k1 t0 t1 t2 t3 t4 t5))) M
theorem mrs_sxS2 (N : Nat) (k0 : Int → Int → Int → Int → Int → Int → Option (V × H)) (k1 : Int → Int → Int → Int → Int → Int → Option (V × H)) (M : Nat) (t0 : Int) (t1 : Int) (t2 : Int) (t3 : Int) (t4 : Int) (t5 : Int) (t44 : Int) : mr_sxS2 N k0 k1 (M + 1) t0 t1 t2 t3 t4 t5 t44 = (match decide ((t44 : Int) < 6) with
  | true => (match decide (0 ≤ (t44 : Int) ∧ (t44 : Int) < 6) with
    | true => (match [t0, t1, t2, t3, t4, t5][0 + (t44).toNat * 1]? with
      | some e1 => (match !(is6 e1) with
        | true => (k0 t0 t1 t2 t3 t4 t5)
        | false => (mr_sxS2 N k0 k1 M t0 t1 t2 t3 t4 t5 (IntKind.i64.wrap (t44 + 1))))
      | none => none)
    | false => none)
  | false => (k1 t0 t1 t2 t3 t4 t5)) := by kernel_rfl
theorem H_sxS2 (N : Nat) : ∀ (M : Nat) (t0 : Int) (t1 : Int) (t2 : Int) (t3 : Int) (t4 : Int) (t5 : Int) (t44 : Int), lp_sxS2 N M (st_sxS2 t0 t1 t2 t3 t4 t5 t44) (kt_sxS2 N (kEnd Try.f53 0)) = mr_sxS2 N (ce_sxS2_0 N) (ce_sxS2_1 N) M t0 t1 t2 t3 t4 t5 t44 := by
  have he0 : ∀ (t0 : Int) (t1 : Int) (t2 : Int) (t3 : Int) (t4 : Int) (t5 : Int), kt_sxS2 N (kEnd Try.f53 0) .ret (en_sxS2_0 t0 t1 t2 t3 t4 t5) = ce_sxS2_0 N t0 t1 t2 t3 t4 t5 := by
    intro t0 t1 t2 t3 t4 t5
    rw [end_sxS2_0]
    unfold ce_sxS2_0
    first | simp only [] | rfl
  have he1 : ∀ (t0 : Int) (t1 : Int) (t2 : Int) (t3 : Int) (t4 : Int) (t5 : Int), kt_sxS2 N (kEnd Try.f53 0) (.exit 0) (en_sxS2_1 t0 t1 t2 t3 t4 t5) = ce_sxS2_1 N t0 t1 t2 t3 t4 t5 := by
    intro t0 t1 t2 t3 t4 t5
    rw [end_sxS2_1]
    unfold ce_sxS2_1
    first | simp only [H_sxS13 N N] | rfl
  intro M
  induction M with
  | zero => intros; rfl
  | succ M ih =>
    intro t0 t1 t2 t3 t4 t5 t44
    rw [step_sxS2]
    rw [mrs_sxS2]
    first | simp only [ih, he0, he1] | rfl
noncomputable def md_sxS (N : Nat) (a : Int) (b : Int) (c : Int) (d : Int) (e : Int) (f : Int) : Option (V × H) := (mr_sxS2 N (ce_sxS2_0 N) (ce_sxS2_1 N) N a b c d e f 0)
theorem mdl_sxS (N : Nat) (a : Int) (b : Int) (c : Int) (d : Int) (e : Int) (f : Int) : run ty tab_sxS an_sxS N Try.f53 [.int .i64 a, .int .i64 b, .int .i64 c, .int .i64 d, .int .i64 e, .int .i64 f] [] = md_sxS N a b c d e f := by
  rw [run_sxS]
  unfold md_sxS
  first | simp only [H_sxS2 N N] | rfl

theorem sx2 (N : Nat) (k0 k1 : Int → Int → Int → Int → Int → Int → Option (V × H)) (M : Nat) (a b c d e f : Int) : mr_sxS2 N k0 k1 (M + 7) a b c d e f 0 = (match !(is6 a) with | true => (k0 a b c d e f) | false => (match !(is6 b) with | true => (k0 a b c d e f) | false => (match !(is6 c) with | true => (k0 a b c d e f) | false => (match !(is6 d) with | true => (k0 a b c d e f) | false => (match !(is6 e) with | true => (k0 a b c d e f) | false => (match !(is6 f) with | true => (k0 a b c d e f) | false => (k1 a b c d e f))))))) := by kernel_rfl
end
theorem tsx : oJ (md_sxS 60 2 3 3 4 3 3) = oJ (md_sxI (35 + 5) 2 3 3 4 3 3) := by kernel_rfl
end Go.Proofs.Ytbhfjdlhhjeknaa.Ab
