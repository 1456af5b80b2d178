/-
  No cell of these rows narrows 'for every input' (looked for: loops, veiled, ifaces, maps, wideKeys, modest, calm, conditions, laid).
  DERIVED. THE GIVEN ROWS OF THIS SEAT. 2 by the template 'for every input the law returns true; each argument reads behind the call as it read before'; 0 by the template 'total and deterministic' (their statements: YtbbggpcbnahgiaaTotals.lean).
  GIVEN WITH THE SEED: the statements are not yours to turn. If you find one false, say at which input.
  Laid BY PROGRAM, IN A SANDBOX (cutbox-rows.mjs): the forced cells as the released guide's own fill.sh prints them over the translation f1255775c400f8ac… (all of the seat's roots in one cut). By AI agents, Wed Nov 11 2026. No macro, syntax, notation, axiom, sorry.
-/
import Derived.Test.YtbbggpcbnahgiaaChecked
import GoSem.Claim
import GoSem.ClaimJoined
import GoSem.ClaimMapViews
import Derived.JoinedTies
import Derived.KernelRfl
namespace Go.Proofs.Ytbbggpcbnahgiaa
/- THE CELL 'sum', in the pinned program and in every row, IS THE sha256 OF THE DUMP (.gsa) THAT YtbbggpcbnahgiaaProg.lean LOADS. Nothing in Lean hashes anything: it is a label: what it is worth is what the hold of that sum in a sandbox is worth. -/
noncomputable def Try.pinned : Pinned := { name := "ytbbggpcbnahgiaa", sum := "f1255775c400f8acf51ec23c6ceedf414999d11c1d53ab98a544f9f3d4619567", checked := Try.checked }
namespace Rows
def none {H : Type} : Left H := { results := [], args := [] }

/-- 'laws.FnRotors': WHATEVER THE INPUT: true; the input reads as it did. -/
def fnRotorsSpec : ChangeSpec := { name := "fnRotors", fn := fun _ => fun
  | [d1, d2] => { results := [.lit (.bool true)], args := [d1, d2] }
  | _ => none }
def fnRotorsRow : OpenClaim := { program := "ytbbggpcbnahgiaa", sum := "f1255775c400f8acf51ec23c6ceedf414999d11c1d53ab98a544f9f3d4619567", func := "loop.example/g01403/laws.FnRotors", spec := "fnRotors", inPlace := ["math.Float64frombits", "math.Float32bits"], unfollowed := true, recurses := true, plainKeys := false, apart := false }
def FnRotorsSaid : Prop := fnRotorsRow.holds Try.pinned (OpenSpec.ofChange fnRotorsSpec)

/-- ITS FALSE NEIGHBOUR: 'it returns false'. Refute it at one input. -/
def fnRotorsWrong : ChangeSpec := { name := "fnRotors", fn := fun _ => fun
  | [d1, d2] => { results := [.lit (.bool false)], args := [d1, d2] }
  | _ => none }
def FnRotorsWrongFalsely : Prop := fnRotorsRow.holds Try.pinned (OpenSpec.ofChange fnRotorsWrong)

/-- 'laws.FnShells': WHATEVER THE INPUT: true; the input reads as it did. -/
def fnShellsSpec : ChangeSpec := { name := "fnShells", fn := fun _ => fun
  | [d1, d2] => { results := [.lit (.bool true)], args := [d1, d2] }
  | _ => none }
def fnShellsRow : OpenClaim := { program := "ytbbggpcbnahgiaa", sum := "f1255775c400f8acf51ec23c6ceedf414999d11c1d53ab98a544f9f3d4619567", func := "loop.example/g01403/laws.FnShells", spec := "fnShells", plainKeys := false, apart := false }
def FnShellsSaid : Prop := fnShellsRow.holds Try.pinned (OpenSpec.ofChange fnShellsSpec)

/-- ITS FALSE NEIGHBOUR: 'it returns false'. Refute it at one input. -/
def fnShellsWrong : ChangeSpec := { name := "fnShells", fn := fun _ => fun
  | [d1, d2] => { results := [.lit (.bool false)], args := [d1, d2] }
  | _ => none }
def FnShellsWrongFalsely : Prop := fnShellsRow.holds Try.pinned (OpenSpec.ofChange fnShellsWrong)

/- THE SECOND FORM. 'bulk': how many values and letters a reading holds, each counted each time it is reached (what is shared counts as often as it is met; a slice's spare places count too). A statement '..UptoSaid' is the law's where the arguments, and the package variables that the reading takes, are together of bulk at most 1048576: NARROWER than '..Said'. Prove '..Said' where nothing that the law and all that it calls make is longer than what came in: it says more and counts as full. Else prove '..UptoSaid'. A law counts once. -/
mutual
def uptoBulk {H : Type} : DataW H → Nat
  | .lit (.string bytes) => bytes.length + 1
  | .lit _ => 1
  | .nil => 1
  | .ptr d => uptoBulk d + 1
  | .slice elems spare => uptoBulkAll elems + uptoBulkAll spare + 1
  | .agg parts => uptoBulkAll parts + 1
  | .iface _ d => uptoBulk d + 1
  | .map entries => uptoBulkEntries entries + 1
  | .held _ => 1
def uptoBulkAll {H : Type} : List (DataW H) → Nat
  | [] => 0
  | d :: r => uptoBulk d + uptoBulkAll r
def uptoBulkEntries {H : Type} : List (Lit × DataW H) → Nat
  | [] => 0
  | x :: r => uptoBulkEntry x + uptoBulkEntries r
def uptoBulkEntry {H : Type} : Lit × DataW H → Nat
  | (.string bytes, d) => bytes.length + uptoBulk d + 1
  | (_, d) => uptoBulk d + 1
 end
def uptoSmall : (H : Type) → List (DataW H) → Bool := fun _ ds => decide (uptoBulkAll ds ≤ 1048576)
def OpenSpec.upto (s : _root_.Go.ChangeSpec) : _root_.Go.OpenSpec := { _root_.Go.OpenSpec.ofChange s with cond := some uptoSmall }

/-- 'laws.FnRotors', WHERE WHAT IT READS IS OF BULK AT MOST 1048576: true; the input reads as it did. -/
def fnRotorsUptoRow : OpenClaim := { program := "ytbbggpcbnahgiaa", sum := "f1255775c400f8acf51ec23c6ceedf414999d11c1d53ab98a544f9f3d4619567", func := "loop.example/g01403/laws.FnRotors", spec := "fnRotors", inPlace := ["math.Float64frombits", "math.Float32bits"], unfollowed := true, recurses := true, plainKeys := false, apart := false, narrowed := true }
def FnRotorsUptoSaid : Prop := fnRotorsUptoRow.holds Try.pinned (OpenSpec.upto fnRotorsSpec)

/-- 'laws.FnShells', WHERE WHAT IT READS IS OF BULK AT MOST 1048576: true; the input reads as it did. -/
def fnShellsUptoRow : OpenClaim := { program := "ytbbggpcbnahgiaa", sum := "f1255775c400f8acf51ec23c6ceedf414999d11c1d53ab98a544f9f3d4619567", func := "loop.example/g01403/laws.FnShells", spec := "fnShells", plainKeys := false, apart := false, narrowed := true }
def FnShellsUptoSaid : Prop := fnShellsUptoRow.holds Try.pinned (OpenSpec.upto fnShellsSpec)

end Rows
end Go.Proofs.Ytbbggpcbnahgiaa
