/- A call in the middle of a region. Only lemmas. -/
import Derived.Test.YthcjbchkagkaaaaListB
namespace Go.Proofs.Ythcjbchkagkaaaa.Ab
set_option linter.unusedVariables false
set_option linter.unusedSimpArgs false
open Go

abbrev nilF : V := .tup [.a .nil, .a (.bool false)]
/-- The operations of region 'r'. -/
def regIn (r : Nat) : Code → Option (Array Oper)
  | .region id ops _ => match decide (id = r) with | true => some ops | false => none
  | .seq a b => match regIn r a with | some c => some c | none => regIn r b
  | .block _ b => regIn r b
  | .scope b => regIn r b
  | .loop b => regIn r b
  | .cond _ a b => match regIn r a with | some c => some c | none => regIn r b
  | _ => none
def regOf (r : Nat) (fn : Func) : Array Oper :=
  match fn.body with
  | some c => match regIn r c with
    | some o => o
    | none => #[]
  | none => #[]
/-- What is left of a region behind its operation 'i', which gives 'v' to slot 'd', and then the return. -/
abbrev kOp (fns : Fns) (an : Ann) (N k : Nat) (fn : Func) (r i d : Nat) (t : List V) (c : Code) : V → H → Option (V × H) := fun v h' =>
  putK t (some d) v fun t' => opsK ty fns (fun _ => .plain) (regOf r fn) (i + 1) ((regOf r fn).toList.drop (i + 1)) t' h' fun t h => exec ty fns an N k c ⟨t, h⟩ (kEnd fn k)
/-- A function as it computes. -/
def gRun (fns : Fns) (an : Ann) (N : Nat) (fn : Func) : G := fun vs h => run ty fns an N fn vs h
theorem ok_run {f : FuncId} {fn : Func} {code : Code} {fns : Fns} (hfn : ∀ f, FnOk Try.prog f (fns f)) (hf : Try.prog.funcs[f]? = some fn) (hb : fn.body = some code) (hn : (fn.name == "runtime.NumGoroutine") = false) (an : Ann) (N : Nat) :
    FnOk Try.prog f (gRun fns an N fn) := fnOk hfn hf hb hn an fun _ _ _ _ e => ⟨N, e⟩
/-- What follows region 'r'. -/
def aftIn (r : Nat) : Code → Option Code
  | .seq (.region id _ _) b => match decide (id = r) with | true => some b | false => aftIn r b
  | .seq a b => match aftIn r a with | some c => some (.seq c b) | none => aftIn r b
  | _ => none
def aftOf (r : Nat) (fn : Func) : Code :=
  match fn.body with
  | some c => match aftIn r c with
    | some b => b
    | none => .skip
  | none => .skip

end Go.Proofs.Ythcjbchkagkaaaa.Ab
