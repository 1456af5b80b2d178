/- 'FirstTops': what it computes. Only lemmas. -/
import Derived.Test.YtjjdfeemkkeokaaList
namespace Go.Proofs.Ytjjdfeemkkeokaa.Ab
set_option linter.unusedVariables false
set_option linter.unusedSimpArgs false
open Go

def tops (a b c : Nat) : List Nat := [fop .add .f32 a b, fop .add .f32 a c, fop .add .f32 b c]
def topsOk (a b c : Nat) : Bool := nonB a && (nonB b && (nonB c && (tops a b c).all finB))
abbrev nilF : V := .tup [.a .nil, .a (.bool false)]
def gTops : G := fun vs h => match vs, h with
  | [.fl .f32 a, .fl .f32 b, .fl .f32 c], [] => match topsOk a b c with
    | true => some (.tup [.a (.sl 0 0 3), .a (.bool true)], [.at true (.fl .f32 (tops a b c))])
    | false => some (nilF, [])
  | _, _ => none
theorem gTops_inv {vs : List V} {h : H} {v : V} {h' : H} (e : gTops vs h = some (v, h')) : ∃ a b c, vs = [.fl .f32 a, .fl .f32 b, .fl .f32 c] ∧ h = [] ∧ (match topsOk a b c with
    | true => some (.tup [.a (.sl 0 0 3), .a (.bool true)], [.at true (.fl .f32 (tops a b c))])
    | false => some (nilF, [])) = some (v, h') := by
  unfold gTops at e
  split at e
  · exact ⟨_, _, _, rfl, rfl, e⟩
  · cases e
/-- The operations of region 'r'. -/
def regIn (r : Nat) : Code → Option (Array Oper)
  | .region id ops _ => match decide (id = r) with | true => some ops | false => none
  | .seq a b => match regIn r a with | some c => some c | none => regIn r b
  | .block _ b => regIn r b
  | .scope b => regIn r b
  | .loop b => regIn r b
  | .cond _ a b => match regIn r a with | some c => some c | none => regIn r b
  | _ => none
def regOf (r : Nat) (fn : Func) : Array Oper :=
  match fn.body with
  | some c => match regIn r c with
    | some o => o
    | none => #[]
  | none => #[]
/-- What is left of a region behind its operation 'i', which gives 'v' to slot 'd', and then the return. -/
abbrev kOp (fns : Fns) (an : Ann) (N k : Nat) (fn : Func) (r i d : Nat) (t : List V) (c : Code) : V → H → Option (V × H) := fun v h' =>
  putK t (some d) v fun t' => opsK ty fns (fun _ => .plain) (regOf r fn) (i + 1) ((regOf r fn).toList.drop (i + 1)) t' h' fun t h => exec ty fns an N k c ⟨t, h⟩ (kEnd fn k)
theorem ls_spec_true (a b c : Nat) (ht : (tops a b c).all finB = true) (K : V → H → Option (V × H)) : callK (tab [(70, gF1 nonB), (71, gLs)]) 71 [.sl 0 0 3] [(.at true (.fl .f32 (tops a b c)))] K = K (.tup [.a (.sl 0 0 3), .a (.bool true)]) [(.at true (.fl .f32 (tops a b c)))] := by
  refine Eq.trans (b := match (match (tops a b c).all finB with | true => some (V.tup [.a (.sl 0 0 3), .a (.bool true)], ([(.at true (.fl .f32 (tops a b c)))] : H)) | false => some (V.tup [.a .nil, .a (.bool false)], ([(.at true (.fl .f32 (tops a b c)))] : H))) with
    | none => none
    | some (v, g') => K (v.up (back [0] 1)) (layBack (back [0] 1) [(.at true (.fl .f32 (tops a b c)))] [0] g')) (by kernel_rfl) ?_
  rw [ht]
  kernel_rfl
theorem ls_spec_false (a b c : Nat) (ht : (tops a b c).all finB = false) (K : V → H → Option (V × H)) : callK (tab [(70, gF1 nonB), (71, gLs)]) 71 [.sl 0 0 3] [(.at true (.fl .f32 (tops a b c)))] K = K (.tup [.a .nil, .a (.bool false)]) [(.at true (.fl .f32 (tops a b c)))] := by
  refine Eq.trans (b := match (match (tops a b c).all finB with | true => some (V.tup [.a (.sl 0 0 3), .a (.bool true)], ([(.at true (.fl .f32 (tops a b c)))] : H)) | false => some (V.tup [.a .nil, .a (.bool false)], ([(.at true (.fl .f32 (tops a b c)))] : H))) with
    | none => none
    | some (v, g') => K (v.up (back [0] 1)) (layBack (back [0] 1) [(.at true (.fl .f32 (tops a b c)))] [0] g')) (by kernel_rfl) ?_
  rw [ht]
  kernel_rfl
theorem run_specTops (a b c : Nat) : run ty (tab [(70, gF1 nonB), (71, gLs)]) ann0 0 Try.f36 [.fl .f32 a, .fl .f32 b, .fl .f32 c] []
    = match !nonB a with
      | true => some (nilF, [])
      | false => match !nonB b with
      | true => some (nilF, [])
      | false => match !nonB c with
      | true => some (nilF, [])
      | false => callK (tab [(70, gF1 nonB), (71, gLs)]) 71 [.sl 0 0 3] [(.at true (.fl .f32 (tops a b c)))] (kOp (tab [(70, gF1 nonB), (71, gLs)]) ann0 0 0 Try.f36 3 10 31 [.fl .f32 a, .fl .f32 b, .fl .f32 c, V.no, V.no, V.no, .nil, .bool false, .fl .f32 a, .bool (nonB a), .bool (!nonB a), .bool false, .fl .f32 b, .bool (nonB b), .bool (!nonB b), .bool (!nonB b), .bool false, .fl .f32 c, .bool (nonB c), .bool (!nonB c), .bool (!nonB c), .fl .f32 a, .fl .f32 b, .fl .f32 (fop .add .f32 a b), .fl .f32 a, .fl .f32 c, .fl .f32 (fop .add .f32 a c), .fl .f32 b, .fl .f32 c, .fl .f32 (fop .add .f32 b c), .sl 0 0 3, V.no, V.no, V.no] .ret) := by
  kernel_rfl
theorem end_specTops_true (a b c : Nat) : (kOp (tab [(70, gF1 nonB), (71, gLs)]) ann0 0 0 Try.f36 3 10 31 [.fl .f32 a, .fl .f32 b, .fl .f32 c, V.no, V.no, V.no, .nil, .bool false, .fl .f32 a, .bool (nonB a), .bool (!nonB a), .bool false, .fl .f32 b, .bool (nonB b), .bool (!nonB b), .bool (!nonB b), .bool false, .fl .f32 c, .bool (nonB c), .bool (!nonB c), .bool (!nonB c), .fl .f32 a, .fl .f32 b, .fl .f32 (fop .add .f32 a b), .fl .f32 a, .fl .f32 c, .fl .f32 (fop .add .f32 a c), .fl .f32 b, .fl .f32 c, .fl .f32 (fop .add .f32 b c), .sl 0 0 3, V.no, V.no, V.no] .ret) (.tup [.a (.sl 0 0 3), .a (.bool true)]) [(.at true (.fl .f32 (tops a b c)))] = some (.tup [.a (.sl 0 0 3), .a (.bool true)], [(.at true (.fl .f32 (tops a b c)))]) := by kernel_rfl
theorem end_specTops_false (a b c : Nat) : (kOp (tab [(70, gF1 nonB), (71, gLs)]) ann0 0 0 Try.f36 3 10 31 [.fl .f32 a, .fl .f32 b, .fl .f32 c, V.no, V.no, V.no, .nil, .bool false, .fl .f32 a, .bool (nonB a), .bool (!nonB a), .bool false, .fl .f32 b, .bool (nonB b), .bool (!nonB b), .bool (!nonB b), .bool false, .fl .f32 c, .bool (nonB c), .bool (!nonB c), .bool (!nonB c), .fl .f32 a, .fl .f32 b, .fl .f32 (fop .add .f32 a b), .fl .f32 a, .fl .f32 c, .fl .f32 (fop .add .f32 a c), .fl .f32 b, .fl .f32 c, .fl .f32 (fop .add .f32 b c), .sl 0 0 3, V.no, V.no, V.no] .ret) (.tup [.a .nil, .a (.bool false)]) [(.at true (.fl .f32 (tops a b c)))] = some (nilF, []) := by kernel_rfl
theorem ok_specTops : FnOk Try.prog 36 gTops := by
  refine fnOk (tab_cons (k := 70) ok_l03Least (tab_cons (k := 71) ok_l03List tab_nil)) Try.func36 rfl rfl ann0 fun vs h v h' e => ⟨0, ?_⟩
  obtain ⟨a, b, c, rfl, rfl, he⟩ := gTops_inv e
  clear e
  refine Eq.trans (run_specTops a b c) (Eq.trans ?_ he)
  clear he
  unfold topsOk
  cases hl : (tops a b c).all finB with
  | true =>
    rw [ls_spec_true a b c hl, end_specTops_true]
    generalize nonB a = p
    generalize nonB b = q
    generalize nonB c = r
    cases p <;> cases q <;> cases r <;> rfl
  | false =>
    rw [ls_spec_false a b c hl, end_specTops_false]
    generalize nonB a = p
    generalize nonB b = q
    generalize nonB c = r
    cases p <;> cases q <;> cases r <;> rfl
theorem ls_impl_true (a b c : Nat) (ht : (tops a b c).all finB = true) (K : V → H → Option (V × H)) : callK (tab [(66, gAll nonB), (72, gLs)]) 72 [.sl 1 0 3] [(.at true (.fl .f32 [a, b, c])), (.at true (.fl .f32 (tops a b c)))] K = K (.tup [.a (.sl 1 0 3), .a (.bool true)]) [(.at true (.fl .f32 [a, b, c])), (.at true (.fl .f32 (tops a b c)))] := by
  refine Eq.trans (b := match (match (tops a b c).all finB with | true => some (V.tup [.a (.sl 0 0 3), .a (.bool true)], ([(.at true (.fl .f32 (tops a b c)))] : H)) | false => some (V.tup [.a .nil, .a (.bool false)], ([(.at true (.fl .f32 (tops a b c)))] : H))) with
    | none => none
    | some (v, g') => K (v.up (back [1] 2)) (layBack (back [1] 2) [(.at true (.fl .f32 [a, b, c])), (.at true (.fl .f32 (tops a b c)))] [1] g')) (by kernel_rfl) ?_
  rw [ht]
  kernel_rfl
theorem ls_impl_false (a b c : Nat) (ht : (tops a b c).all finB = false) (K : V → H → Option (V × H)) : callK (tab [(66, gAll nonB), (72, gLs)]) 72 [.sl 1 0 3] [(.at true (.fl .f32 [a, b, c])), (.at true (.fl .f32 (tops a b c)))] K = K (.tup [.a .nil, .a (.bool false)]) [(.at true (.fl .f32 [a, b, c])), (.at true (.fl .f32 (tops a b c)))] := by
  refine Eq.trans (b := match (match (tops a b c).all finB with | true => some (V.tup [.a (.sl 0 0 3), .a (.bool true)], ([(.at true (.fl .f32 (tops a b c)))] : H)) | false => some (V.tup [.a .nil, .a (.bool false)], ([(.at true (.fl .f32 (tops a b c)))] : H))) with
    | none => none
    | some (v, g') => K (v.up (back [1] 2)) (layBack (back [1] 2) [(.at true (.fl .f32 [a, b, c])), (.at true (.fl .f32 (tops a b c)))] [1] g')) (by kernel_rfl) ?_
  rw [ht]
  kernel_rfl
theorem run_implTops (a b c : Nat) : run ty (tab [(66, gAll nonB), (72, gLs)]) ann0 0 Try.f37 [.fl .f32 a, .fl .f32 b, .fl .f32 c] []
    = match !(nonB a && (nonB b && (nonB c && true))) with
      | true => some (nilF, [])
      | false => callK (tab [(66, gAll nonB), (72, gLs)]) 72 [.sl 1 0 3] [(.at true (.fl .f32 [a, b, c])), (.at true (.fl .f32 (tops a b c)))] (kOp (tab [(66, gAll nonB), (72, gLs)]) ann0 0 0 Try.f37 3 10 24 [.fl .f32 a, .fl .f32 b, .fl .f32 c, V.no, V.no, V.no, .nil, .bool false, .fl .f32 a, .fl .f32 b, .fl .f32 c, .sl 0 0 3, .bool (nonB a && (nonB b && (nonB c && true))), .bool (!(nonB a && (nonB b && (nonB c && true)))), .fl .f32 a, .fl .f32 b, .fl .f32 (fop .add .f32 a b), .fl .f32 a, .fl .f32 c, .fl .f32 (fop .add .f32 a c), .fl .f32 b, .fl .f32 c, .fl .f32 (fop .add .f32 b c), .sl 1 0 3, V.no, V.no, V.no] .ret) := by
  kernel_rfl
theorem end_implTops_true (a b c : Nat) : (kOp (tab [(66, gAll nonB), (72, gLs)]) ann0 0 0 Try.f37 3 10 24 [.fl .f32 a, .fl .f32 b, .fl .f32 c, V.no, V.no, V.no, .nil, .bool false, .fl .f32 a, .fl .f32 b, .fl .f32 c, .sl 0 0 3, .bool (nonB a && (nonB b && (nonB c && true))), .bool (!(nonB a && (nonB b && (nonB c && true)))), .fl .f32 a, .fl .f32 b, .fl .f32 (fop .add .f32 a b), .fl .f32 a, .fl .f32 c, .fl .f32 (fop .add .f32 a c), .fl .f32 b, .fl .f32 c, .fl .f32 (fop .add .f32 b c), .sl 1 0 3, V.no, V.no, V.no] .ret) (.tup [.a (.sl 1 0 3), .a (.bool true)]) [(.at true (.fl .f32 [a, b, c])), (.at true (.fl .f32 (tops a b c)))] = some (.tup [.a (.sl 0 0 3), .a (.bool true)], [(.at true (.fl .f32 (tops a b c)))]) := by kernel_rfl
theorem end_implTops_false (a b c : Nat) : (kOp (tab [(66, gAll nonB), (72, gLs)]) ann0 0 0 Try.f37 3 10 24 [.fl .f32 a, .fl .f32 b, .fl .f32 c, V.no, V.no, V.no, .nil, .bool false, .fl .f32 a, .fl .f32 b, .fl .f32 c, .sl 0 0 3, .bool (nonB a && (nonB b && (nonB c && true))), .bool (!(nonB a && (nonB b && (nonB c && true)))), .fl .f32 a, .fl .f32 b, .fl .f32 (fop .add .f32 a b), .fl .f32 a, .fl .f32 c, .fl .f32 (fop .add .f32 a c), .fl .f32 b, .fl .f32 c, .fl .f32 (fop .add .f32 b c), .sl 1 0 3, V.no, V.no, V.no] .ret) (.tup [.a .nil, .a (.bool false)]) [(.at true (.fl .f32 [a, b, c])), (.at true (.fl .f32 (tops a b c)))] = some (nilF, []) := by kernel_rfl
theorem ok_implTops : FnOk Try.prog 37 gTops := by
  refine fnOk (tab_cons (k := 66) ok_areRotor (tab_cons (k := 72) ok_checkedNumbers tab_nil)) Try.func37 rfl rfl ann0 fun vs h v h' e => ⟨0, ?_⟩
  obtain ⟨a, b, c, rfl, rfl, he⟩ := gTops_inv e
  clear e
  refine Eq.trans (run_implTops a b c) (Eq.trans ?_ he)
  clear he
  unfold topsOk
  cases hl : (tops a b c).all finB with
  | true =>
    rw [ls_impl_true a b c hl, end_implTops_true]
    generalize nonB a = p
    generalize nonB b = q
    generalize nonB c = r
    cases p <;> cases q <;> cases r <;> rfl
  | false =>
    rw [ls_impl_false a b c hl, end_implTops_false]
    generalize nonB a = p
    generalize nonB b = q
    generalize nonB c = r
    cases p <;> cases q <;> cases r <;> rfl
end Go.Proofs.Ytjjdfeemkkeokaa.Ab
