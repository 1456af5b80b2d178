/- What follows a loop. Only lemmas. -/
import Derived.Test.YthcjbchkagkaaaaSame
namespace Go.Proofs.Ythcjbchkagkaaaa.Ab
set_option linter.unusedVariables false
set_option linter.unusedSimpArgs false
open Go

/-- What follows the loop whose first region is 'r', in the row of codes that it ends. -/
def tailIn (r : Nat) : Code → Option Code
  | .seq a b => match loopIn r a with
    | some _ => (match tailIn r a with | some c => some c | none => some b)
    | none => tailIn r b
  | _ => none
def tailOf (r : Nat) (fn : Func) : Code :=
  match fn.body with
  | some c => match tailIn r c with
    | some b => b
    | none => .skip
  | none => .skip
abbrev kEnd (fn : Func) (k : Nat) : X → St → Option (V × H) := fun x st => match x with | .exit _ => none | _ => finish fn k st
abbrev kSeq (fns : Fns) (an : Ann) (N k : Nat) (c : Code) (K : X → St → Option (V × H)) : X → St → Option (V × H) := fun x st => match x with | .norm => exec ty fns an N k c st K | x => K x st
abbrev kBlk (id : Nat) (K : X → St → Option (V × H)) : X → St → Option (V × H) := fun x st => match x with
  | .exit j => match decide (j = id) with
    | true => K .norm st
    | false => K (.exit j) st
  | x => K x st

end Go.Proofs.Ythcjbchkagkaaaa.Ab
