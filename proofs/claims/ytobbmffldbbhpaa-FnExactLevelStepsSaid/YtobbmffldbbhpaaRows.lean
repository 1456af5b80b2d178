/-
  No cell of these rows narrows 'for every input' (looked for: loops, veiled, ifaces, maps, wideKeys, modest, calm, conditions, laid).
  DERIVED. THE GIVEN ROWS OF THIS SEAT. 12 by the template 'for every input the law returns true; each argument reads behind the call as it read before'; 0 by the template 'total and deterministic' (their statements: YtobbmffldbbhpaaTotals.lean).
  GIVEN WITH THE SEED: the statements are not yours to turn. If you find one false, say at which input.
  Laid BY PROGRAM, IN A SANDBOX (cutbox-rows.mjs): the forced cells as the released guide's own fill.sh prints them over the translation d2fedb7c66949146… (all of the seat's roots in one cut). By AI agents, Wed Nov 11 2026. No macro, syntax, notation, axiom, sorry.
-/
import Derived.Test.YtobbmffldbbhpaaChecked
import GoSem.Claim
import GoSem.ClaimJoined
import GoSem.ClaimMapViews
import Derived.JoinedTies
import Derived.KernelRfl
namespace Go.Proofs.Ytobbmffldbbhpaa
/- THE CELL 'sum', in the pinned program and in every row, IS THE sha256 OF THE DUMP (.gsa) THAT YtobbmffldbbhpaaProg.lean LOADS. Nothing in Lean hashes anything: it is a label: what it is worth is what the hold of that sum in a sandbox is worth. -/
noncomputable def Try.pinned : Pinned := { name := "ytobbmffldbbhpaa", sum := "d2fedb7c66949146502f3c30783f31d641f8a6c4b017e235c725972f4ea8b395", checked := Try.checked }
namespace Rows
def none {H : Type} : Left H := { results := [], args := [] }

/-- 'laws.FnExactCountShell': WHATEVER THE INPUT: true; the input reads as it did. -/
def fnExactCountShellSpec : ChangeSpec := { name := "fnExactCountShell", fn := fun _ => fun
  | [d1, d2] => { results := [.lit (.bool true)], args := [d1, d2] }
  | _ => none }
def fnExactCountShellRow : OpenClaim := { program := "ytobbmffldbbhpaa", sum := "d2fedb7c66949146502f3c30783f31d641f8a6c4b017e235c725972f4ea8b395", func := "loop.example/g01403/laws.FnExactCountShell", spec := "fnExactCountShell", plainKeys := false, apart := false }
def FnExactCountShellSaid : Prop := fnExactCountShellRow.holds Try.pinned (OpenSpec.ofChange fnExactCountShellSpec)

/-- ITS FALSE NEIGHBOUR: 'it returns false'. Refute it at one input. -/
def fnExactCountShellWrong : ChangeSpec := { name := "fnExactCountShell", fn := fun _ => fun
  | [d1, d2] => { results := [.lit (.bool false)], args := [d1, d2] }
  | _ => none }
def FnExactCountShellWrongFalsely : Prop := fnExactCountShellRow.holds Try.pinned (OpenSpec.ofChange fnExactCountShellWrong)

/-- 'laws.FnExactLevelSteps': WHATEVER THE INPUT: true; the input reads as it did. -/
def fnExactLevelStepsSpec : ChangeSpec := { name := "fnExactLevelSteps", fn := fun _ => fun
  | [d1, d2, d3, d4, d5] => { results := [.lit (.bool true)], args := [d1, d2, d3, d4, d5] }
  | _ => none }
def fnExactLevelStepsRow : OpenClaim := { program := "ytobbmffldbbhpaa", sum := "d2fedb7c66949146502f3c30783f31d641f8a6c4b017e235c725972f4ea8b395", func := "loop.example/g01403/laws.FnExactLevelSteps", spec := "fnExactLevelSteps", unfollowed := true, recurses := true, plainKeys := false, apart := false }
def FnExactLevelStepsSaid : Prop := fnExactLevelStepsRow.holds Try.pinned (OpenSpec.ofChange fnExactLevelStepsSpec)

/-- ITS FALSE NEIGHBOUR: 'it returns false'. Refute it at one input. -/
def fnExactLevelStepsWrong : ChangeSpec := { name := "fnExactLevelSteps", fn := fun _ => fun
  | [d1, d2, d3, d4, d5] => { results := [.lit (.bool false)], args := [d1, d2, d3, d4, d5] }
  | _ => none }
def FnExactLevelStepsWrongFalsely : Prop := fnExactLevelStepsRow.holds Try.pinned (OpenSpec.ofChange fnExactLevelStepsWrong)

/-- 'laws.FnExactRotorWeights': WHATEVER THE INPUT: true; the input reads as it did. -/
def fnExactRotorWeightsSpec : ChangeSpec := { name := "fnExactRotorWeights", fn := fun _ => fun
  | [d1, d2, d3] => { results := [.lit (.bool true)], args := [d1, d2, d3] }
  | _ => none }
def fnExactRotorWeightsRow : OpenClaim := { program := "ytobbmffldbbhpaa", sum := "d2fedb7c66949146502f3c30783f31d641f8a6c4b017e235c725972f4ea8b395", func := "loop.example/g01403/laws.FnExactRotorWeights", spec := "fnExactRotorWeights", inPlace := ["math.Float64frombits"], unfollowed := true, recurses := true, plainKeys := false, apart := false }
def FnExactRotorWeightsSaid : Prop := fnExactRotorWeightsRow.holds Try.pinned (OpenSpec.ofChange fnExactRotorWeightsSpec)

/-- ITS FALSE NEIGHBOUR: 'it returns false'. Refute it at one input. -/
def fnExactRotorWeightsWrong : ChangeSpec := { name := "fnExactRotorWeights", fn := fun _ => fun
  | [d1, d2, d3] => { results := [.lit (.bool false)], args := [d1, d2, d3] }
  | _ => none }
def FnExactRotorWeightsWrongFalsely : Prop := fnExactRotorWeightsRow.holds Try.pinned (OpenSpec.ofChange fnExactRotorWeightsWrong)

/-- 'laws.FnWeightsSharedOfAll': WHATEVER THE INPUT: true; the input reads as it did. -/
def fnWeightsSharedOfAllSpec : ChangeSpec := { name := "fnWeightsSharedOfAll", fn := fun _ => fun
  | [d1, d2, d3, d4, d5] => { results := [.lit (.bool true)], args := [d1, d2, d3, d4, d5] }
  | _ => none }
def fnWeightsSharedOfAllRow : OpenClaim := { program := "ytobbmffldbbhpaa", sum := "d2fedb7c66949146502f3c30783f31d641f8a6c4b017e235c725972f4ea8b395", func := "loop.example/g01403/laws.FnWeightsSharedOfAll", spec := "fnWeightsSharedOfAll", inPlace := ["math.Float64frombits"], unfollowed := true, recurses := true, plainKeys := false, apart := false }
def FnWeightsSharedOfAllSaid : Prop := fnWeightsSharedOfAllRow.holds Try.pinned (OpenSpec.ofChange fnWeightsSharedOfAllSpec)

/-- ITS FALSE NEIGHBOUR: 'it returns false'. Refute it at one input. -/
def fnWeightsSharedOfAllWrong : ChangeSpec := { name := "fnWeightsSharedOfAll", fn := fun _ => fun
  | [d1, d2, d3, d4, d5] => { results := [.lit (.bool false)], args := [d1, d2, d3, d4, d5] }
  | _ => none }
def FnWeightsSharedOfAllWrongFalsely : Prop := fnWeightsSharedOfAllRow.holds Try.pinned (OpenSpec.ofChange fnWeightsSharedOfAllWrong)

/-- 'laws.FnExactDarkState': WHATEVER THE INPUT: true; the input reads as it did. -/
def fnExactDarkStateSpec : ChangeSpec := { name := "fnExactDarkState", fn := fun _ => fun
  | [d1, d2] => { results := [.lit (.bool true)], args := [d1, d2] }
  | _ => none }
def fnExactDarkStateRow : OpenClaim := { program := "ytobbmffldbbhpaa", sum := "d2fedb7c66949146502f3c30783f31d641f8a6c4b017e235c725972f4ea8b395", func := "loop.example/g01403/laws.FnExactDarkState", spec := "fnExactDarkState", inPlace := ["math.sqrt"], unfollowed := true, recurses := true, plainKeys := false, apart := false }
def FnExactDarkStateSaid : Prop := fnExactDarkStateRow.holds Try.pinned (OpenSpec.ofChange fnExactDarkStateSpec)

/-- ITS FALSE NEIGHBOUR: 'it returns false'. Refute it at one input. -/
def fnExactDarkStateWrong : ChangeSpec := { name := "fnExactDarkState", fn := fun _ => fun
  | [d1, d2] => { results := [.lit (.bool false)], args := [d1, d2] }
  | _ => none }
def FnExactDarkStateWrongFalsely : Prop := fnExactDarkStateRow.holds Try.pinned (OpenSpec.ofChange fnExactDarkStateWrong)

/-- 'laws.FnExactRingThrough': WHATEVER THE INPUT: true; the input reads as it did. -/
def fnExactRingThroughSpec : ChangeSpec := { name := "fnExactRingThrough", fn := fun _ => fun
  | [d1, d2] => { results := [.lit (.bool true)], args := [d1, d2] }
  | _ => none }
def fnExactRingThroughRow : OpenClaim := { program := "ytobbmffldbbhpaa", sum := "d2fedb7c66949146502f3c30783f31d641f8a6c4b017e235c725972f4ea8b395", func := "loop.example/g01403/laws.FnExactRingThrough", spec := "fnExactRingThrough", inPlace := ["math.Float32frombits", "math.Float64frombits", "math.Float64bits", "math.archTrunc"], plainKeys := false, apart := false }
def FnExactRingThroughSaid : Prop := fnExactRingThroughRow.holds Try.pinned (OpenSpec.ofChange fnExactRingThroughSpec)

/-- ITS FALSE NEIGHBOUR: 'it returns false'. Refute it at one input. -/
def fnExactRingThroughWrong : ChangeSpec := { name := "fnExactRingThrough", fn := fun _ => fun
  | [d1, d2] => { results := [.lit (.bool false)], args := [d1, d2] }
  | _ => none }
def FnExactRingThroughWrongFalsely : Prop := fnExactRingThroughRow.holds Try.pinned (OpenSpec.ofChange fnExactRingThroughWrong)

/-- 'laws.FnExactWeightsShared': WHATEVER THE INPUT: true; the input reads as it did. -/
def fnExactWeightsSharedSpec : ChangeSpec := { name := "fnExactWeightsShared", fn := fun _ => fun
  | [d1, d2, d3, d4] => { results := [.lit (.bool true)], args := [d1, d2, d3, d4] }
  | _ => none }
def fnExactWeightsSharedRow : OpenClaim := { program := "ytobbmffldbbhpaa", sum := "d2fedb7c66949146502f3c30783f31d641f8a6c4b017e235c725972f4ea8b395", func := "loop.example/g01403/laws.FnExactWeightsShared", spec := "fnExactWeightsShared", inPlace := ["math.Float64frombits"], unfollowed := true, recurses := true, plainKeys := false, apart := false }
def FnExactWeightsSharedSaid : Prop := fnExactWeightsSharedRow.holds Try.pinned (OpenSpec.ofChange fnExactWeightsSharedSpec)

/-- ITS FALSE NEIGHBOUR: 'it returns false'. Refute it at one input. -/
def fnExactWeightsSharedWrong : ChangeSpec := { name := "fnExactWeightsShared", fn := fun _ => fun
  | [d1, d2, d3, d4] => { results := [.lit (.bool false)], args := [d1, d2, d3, d4] }
  | _ => none }
def FnExactWeightsSharedWrongFalsely : Prop := fnExactWeightsSharedRow.holds Try.pinned (OpenSpec.ofChange fnExactWeightsSharedWrong)

/-- 'laws.FnExactLevelBalance': WHATEVER THE INPUT: true; the input reads as it did. -/
def fnExactLevelBalanceSpec : ChangeSpec := { name := "fnExactLevelBalance", fn := fun _ => fun
  | [d1, d2] => { results := [.lit (.bool true)], args := [d1, d2] }
  | _ => none }
def fnExactLevelBalanceRow : OpenClaim := { program := "ytobbmffldbbhpaa", sum := "d2fedb7c66949146502f3c30783f31d641f8a6c4b017e235c725972f4ea8b395", func := "loop.example/g01403/laws.FnExactLevelBalance", spec := "fnExactLevelBalance", unfollowed := true, recurses := true, plainKeys := false, apart := false }
def FnExactLevelBalanceSaid : Prop := fnExactLevelBalanceRow.holds Try.pinned (OpenSpec.ofChange fnExactLevelBalanceSpec)

/-- ITS FALSE NEIGHBOUR: 'it returns false'. Refute it at one input. -/
def fnExactLevelBalanceWrong : ChangeSpec := { name := "fnExactLevelBalance", fn := fun _ => fun
  | [d1, d2] => { results := [.lit (.bool false)], args := [d1, d2] }
  | _ => none }
def FnExactLevelBalanceWrongFalsely : Prop := fnExactLevelBalanceRow.holds Try.pinned (OpenSpec.ofChange fnExactLevelBalanceWrong)

/-- 'laws.FnRotors': WHATEVER THE INPUT: true; the input reads as it did. -/
def fnRotorsSpec : ChangeSpec := { name := "fnRotors", fn := fun _ => fun
  | [d1, d2] => { results := [.lit (.bool true)], args := [d1, d2] }
  | _ => none }
def fnRotorsRow : OpenClaim := { program := "ytobbmffldbbhpaa", sum := "d2fedb7c66949146502f3c30783f31d641f8a6c4b017e235c725972f4ea8b395", func := "loop.example/g01403/laws.FnRotors", spec := "fnRotors", inPlace := ["math.Float64frombits", "math.Float32bits"], unfollowed := true, recurses := true, plainKeys := false, apart := false }
def FnRotorsSaid : Prop := fnRotorsRow.holds Try.pinned (OpenSpec.ofChange fnRotorsSpec)

/-- ITS FALSE NEIGHBOUR: 'it returns false'. Refute it at one input. -/
def fnRotorsWrong : ChangeSpec := { name := "fnRotors", fn := fun _ => fun
  | [d1, d2] => { results := [.lit (.bool false)], args := [d1, d2] }
  | _ => none }
def FnRotorsWrongFalsely : Prop := fnRotorsRow.holds Try.pinned (OpenSpec.ofChange fnRotorsWrong)

/-- 'laws.FnExactFactorOf': WHATEVER THE INPUT: true; the input reads as it did. -/
def fnExactFactorOfSpec : ChangeSpec := { name := "fnExactFactorOf", fn := fun _ => fun
  | [d1, d2, d3] => { results := [.lit (.bool true)], args := [d1, d2, d3] }
  | _ => none }
def fnExactFactorOfRow : OpenClaim := { program := "ytobbmffldbbhpaa", sum := "d2fedb7c66949146502f3c30783f31d641f8a6c4b017e235c725972f4ea8b395", func := "loop.example/g01403/laws.FnExactFactorOf", spec := "fnExactFactorOf", unfollowed := true, recurses := true, plainKeys := false, apart := false }
def FnExactFactorOfSaid : Prop := fnExactFactorOfRow.holds Try.pinned (OpenSpec.ofChange fnExactFactorOfSpec)

/-- ITS FALSE NEIGHBOUR: 'it returns false'. Refute it at one input. -/
def fnExactFactorOfWrong : ChangeSpec := { name := "fnExactFactorOf", fn := fun _ => fun
  | [d1, d2, d3] => { results := [.lit (.bool false)], args := [d1, d2, d3] }
  | _ => none }
def FnExactFactorOfWrongFalsely : Prop := fnExactFactorOfRow.holds Try.pinned (OpenSpec.ofChange fnExactFactorOfWrong)

/-- 'laws.FnExactRepeatSteps': WHATEVER THE INPUT: true; the input reads as it did. -/
def fnExactRepeatStepsSpec : ChangeSpec := { name := "fnExactRepeatSteps", fn := fun _ => fun
  | [d1, d2] => { results := [.lit (.bool true)], args := [d1, d2] }
  | _ => none }
def fnExactRepeatStepsRow : OpenClaim := { program := "ytobbmffldbbhpaa", sum := "d2fedb7c66949146502f3c30783f31d641f8a6c4b017e235c725972f4ea8b395", func := "loop.example/g01403/laws.FnExactRepeatSteps", spec := "fnExactRepeatSteps", inPlace := ["math.Float32bits", "math.Float64bits"], unfollowed := true, recurses := true, plainKeys := false, apart := false }
def FnExactRepeatStepsSaid : Prop := fnExactRepeatStepsRow.holds Try.pinned (OpenSpec.ofChange fnExactRepeatStepsSpec)

/-- ITS FALSE NEIGHBOUR: 'it returns false'. Refute it at one input. -/
def fnExactRepeatStepsWrong : ChangeSpec := { name := "fnExactRepeatSteps", fn := fun _ => fun
  | [d1, d2] => { results := [.lit (.bool false)], args := [d1, d2] }
  | _ => none }
def FnExactRepeatStepsWrongFalsely : Prop := fnExactRepeatStepsRow.holds Try.pinned (OpenSpec.ofChange fnExactRepeatStepsWrong)

/-- 'laws.FnShells': WHATEVER THE INPUT: true; the input reads as it did. -/
def fnShellsSpec : ChangeSpec := { name := "fnShells", fn := fun _ => fun
  | [d1, d2] => { results := [.lit (.bool true)], args := [d1, d2] }
  | _ => none }
def fnShellsRow : OpenClaim := { program := "ytobbmffldbbhpaa", sum := "d2fedb7c66949146502f3c30783f31d641f8a6c4b017e235c725972f4ea8b395", func := "loop.example/g01403/laws.FnShells", spec := "fnShells", plainKeys := false, apart := false }
def FnShellsSaid : Prop := fnShellsRow.holds Try.pinned (OpenSpec.ofChange fnShellsSpec)

/-- ITS FALSE NEIGHBOUR: 'it returns false'. Refute it at one input. -/
def fnShellsWrong : ChangeSpec := { name := "fnShells", fn := fun _ => fun
  | [d1, d2] => { results := [.lit (.bool false)], args := [d1, d2] }
  | _ => none }
def FnShellsWrongFalsely : Prop := fnShellsRow.holds Try.pinned (OpenSpec.ofChange fnShellsWrong)

/- THE SECOND FORM. 'bulk': how many values and letters a reading holds, each counted each time it is reached (what is shared counts as often as it is met; a slice's spare places count too). A statement '..UptoSaid' is the law's where the arguments, and the package variables that the reading takes, are together of bulk at most 1048576: NARROWER than '..Said'. Prove '..Said' where nothing that the law and all that it calls make is longer than what came in: it says more and counts as full. Else prove '..UptoSaid'. A law counts once. -/
mutual
def uptoBulk {H : Type} : DataW H → Nat
  | .lit (.string bytes) => bytes.length + 1
  | .lit _ => 1
  | .nil => 1
  | .ptr d => uptoBulk d + 1
  | .slice elems spare => uptoBulkAll elems + uptoBulkAll spare + 1
  | .agg parts => uptoBulkAll parts + 1
  | .iface _ d => uptoBulk d + 1
  | .map entries => uptoBulkEntries entries + 1
  | .held _ => 1
def uptoBulkAll {H : Type} : List (DataW H) → Nat
  | [] => 0
  | d :: r => uptoBulk d + uptoBulkAll r
def uptoBulkEntries {H : Type} : List (Lit × DataW H) → Nat
  | [] => 0
  | x :: r => uptoBulkEntry x + uptoBulkEntries r
def uptoBulkEntry {H : Type} : Lit × DataW H → Nat
  | (.string bytes, d) => bytes.length + uptoBulk d + 1
  | (_, d) => uptoBulk d + 1
 end
def uptoSmall : (H : Type) → List (DataW H) → Bool := fun _ ds => decide (uptoBulkAll ds ≤ 1048576)
def OpenSpec.upto (s : _root_.Go.ChangeSpec) : _root_.Go.OpenSpec := { _root_.Go.OpenSpec.ofChange s with cond := some uptoSmall }

/-- 'laws.FnExactCountShell', WHERE WHAT IT READS IS OF BULK AT MOST 1048576: true; the input reads as it did. -/
def fnExactCountShellUptoRow : OpenClaim := { program := "ytobbmffldbbhpaa", sum := "d2fedb7c66949146502f3c30783f31d641f8a6c4b017e235c725972f4ea8b395", func := "loop.example/g01403/laws.FnExactCountShell", spec := "fnExactCountShell", plainKeys := false, apart := false, narrowed := true }
def FnExactCountShellUptoSaid : Prop := fnExactCountShellUptoRow.holds Try.pinned (OpenSpec.upto fnExactCountShellSpec)

/-- 'laws.FnExactLevelSteps', WHERE WHAT IT READS IS OF BULK AT MOST 1048576: true; the input reads as it did. -/
def fnExactLevelStepsUptoRow : OpenClaim := { program := "ytobbmffldbbhpaa", sum := "d2fedb7c66949146502f3c30783f31d641f8a6c4b017e235c725972f4ea8b395", func := "loop.example/g01403/laws.FnExactLevelSteps", spec := "fnExactLevelSteps", unfollowed := true, recurses := true, plainKeys := false, apart := false, narrowed := true }
def FnExactLevelStepsUptoSaid : Prop := fnExactLevelStepsUptoRow.holds Try.pinned (OpenSpec.upto fnExactLevelStepsSpec)

/-- 'laws.FnExactRotorWeights', WHERE WHAT IT READS IS OF BULK AT MOST 1048576: true; the input reads as it did. -/
def fnExactRotorWeightsUptoRow : OpenClaim := { program := "ytobbmffldbbhpaa", sum := "d2fedb7c66949146502f3c30783f31d641f8a6c4b017e235c725972f4ea8b395", func := "loop.example/g01403/laws.FnExactRotorWeights", spec := "fnExactRotorWeights", inPlace := ["math.Float64frombits"], unfollowed := true, recurses := true, plainKeys := false, apart := false, narrowed := true }
def FnExactRotorWeightsUptoSaid : Prop := fnExactRotorWeightsUptoRow.holds Try.pinned (OpenSpec.upto fnExactRotorWeightsSpec)

/-- 'laws.FnWeightsSharedOfAll', WHERE WHAT IT READS IS OF BULK AT MOST 1048576: true; the input reads as it did. -/
def fnWeightsSharedOfAllUptoRow : OpenClaim := { program := "ytobbmffldbbhpaa", sum := "d2fedb7c66949146502f3c30783f31d641f8a6c4b017e235c725972f4ea8b395", func := "loop.example/g01403/laws.FnWeightsSharedOfAll", spec := "fnWeightsSharedOfAll", inPlace := ["math.Float64frombits"], unfollowed := true, recurses := true, plainKeys := false, apart := false, narrowed := true }
def FnWeightsSharedOfAllUptoSaid : Prop := fnWeightsSharedOfAllUptoRow.holds Try.pinned (OpenSpec.upto fnWeightsSharedOfAllSpec)

/-- 'laws.FnExactDarkState', WHERE WHAT IT READS IS OF BULK AT MOST 1048576: true; the input reads as it did. -/
def fnExactDarkStateUptoRow : OpenClaim := { program := "ytobbmffldbbhpaa", sum := "d2fedb7c66949146502f3c30783f31d641f8a6c4b017e235c725972f4ea8b395", func := "loop.example/g01403/laws.FnExactDarkState", spec := "fnExactDarkState", inPlace := ["math.sqrt"], unfollowed := true, recurses := true, plainKeys := false, apart := false, narrowed := true }
def FnExactDarkStateUptoSaid : Prop := fnExactDarkStateUptoRow.holds Try.pinned (OpenSpec.upto fnExactDarkStateSpec)

/-- 'laws.FnExactRingThrough', WHERE WHAT IT READS IS OF BULK AT MOST 1048576: true; the input reads as it did. -/
def fnExactRingThroughUptoRow : OpenClaim := { program := "ytobbmffldbbhpaa", sum := "d2fedb7c66949146502f3c30783f31d641f8a6c4b017e235c725972f4ea8b395", func := "loop.example/g01403/laws.FnExactRingThrough", spec := "fnExactRingThrough", inPlace := ["math.Float32frombits", "math.Float64frombits", "math.Float64bits", "math.archTrunc"], plainKeys := false, apart := false, narrowed := true }
def FnExactRingThroughUptoSaid : Prop := fnExactRingThroughUptoRow.holds Try.pinned (OpenSpec.upto fnExactRingThroughSpec)

/-- 'laws.FnExactWeightsShared', WHERE WHAT IT READS IS OF BULK AT MOST 1048576: true; the input reads as it did. -/
def fnExactWeightsSharedUptoRow : OpenClaim := { program := "ytobbmffldbbhpaa", sum := "d2fedb7c66949146502f3c30783f31d641f8a6c4b017e235c725972f4ea8b395", func := "loop.example/g01403/laws.FnExactWeightsShared", spec := "fnExactWeightsShared", inPlace := ["math.Float64frombits"], unfollowed := true, recurses := true, plainKeys := false, apart := false, narrowed := true }
def FnExactWeightsSharedUptoSaid : Prop := fnExactWeightsSharedUptoRow.holds Try.pinned (OpenSpec.upto fnExactWeightsSharedSpec)

/-- 'laws.FnExactLevelBalance', WHERE WHAT IT READS IS OF BULK AT MOST 1048576: true; the input reads as it did. -/
def fnExactLevelBalanceUptoRow : OpenClaim := { program := "ytobbmffldbbhpaa", sum := "d2fedb7c66949146502f3c30783f31d641f8a6c4b017e235c725972f4ea8b395", func := "loop.example/g01403/laws.FnExactLevelBalance", spec := "fnExactLevelBalance", unfollowed := true, recurses := true, plainKeys := false, apart := false, narrowed := true }
def FnExactLevelBalanceUptoSaid : Prop := fnExactLevelBalanceUptoRow.holds Try.pinned (OpenSpec.upto fnExactLevelBalanceSpec)

/-- 'laws.FnRotors', WHERE WHAT IT READS IS OF BULK AT MOST 1048576: true; the input reads as it did. -/
def fnRotorsUptoRow : OpenClaim := { program := "ytobbmffldbbhpaa", sum := "d2fedb7c66949146502f3c30783f31d641f8a6c4b017e235c725972f4ea8b395", func := "loop.example/g01403/laws.FnRotors", spec := "fnRotors", inPlace := ["math.Float64frombits", "math.Float32bits"], unfollowed := true, recurses := true, plainKeys := false, apart := false, narrowed := true }
def FnRotorsUptoSaid : Prop := fnRotorsUptoRow.holds Try.pinned (OpenSpec.upto fnRotorsSpec)

/-- 'laws.FnExactFactorOf', WHERE WHAT IT READS IS OF BULK AT MOST 1048576: true; the input reads as it did. -/
def fnExactFactorOfUptoRow : OpenClaim := { program := "ytobbmffldbbhpaa", sum := "d2fedb7c66949146502f3c30783f31d641f8a6c4b017e235c725972f4ea8b395", func := "loop.example/g01403/laws.FnExactFactorOf", spec := "fnExactFactorOf", unfollowed := true, recurses := true, plainKeys := false, apart := false, narrowed := true }
def FnExactFactorOfUptoSaid : Prop := fnExactFactorOfUptoRow.holds Try.pinned (OpenSpec.upto fnExactFactorOfSpec)

/-- 'laws.FnExactRepeatSteps', WHERE WHAT IT READS IS OF BULK AT MOST 1048576: true; the input reads as it did. -/
def fnExactRepeatStepsUptoRow : OpenClaim := { program := "ytobbmffldbbhpaa", sum := "d2fedb7c66949146502f3c30783f31d641f8a6c4b017e235c725972f4ea8b395", func := "loop.example/g01403/laws.FnExactRepeatSteps", spec := "fnExactRepeatSteps", inPlace := ["math.Float32bits", "math.Float64bits"], unfollowed := true, recurses := true, plainKeys := false, apart := false, narrowed := true }
def FnExactRepeatStepsUptoSaid : Prop := fnExactRepeatStepsUptoRow.holds Try.pinned (OpenSpec.upto fnExactRepeatStepsSpec)

/-- 'laws.FnShells', WHERE WHAT IT READS IS OF BULK AT MOST 1048576: true; the input reads as it did. -/
def fnShellsUptoRow : OpenClaim := { program := "ytobbmffldbbhpaa", sum := "d2fedb7c66949146502f3c30783f31d641f8a6c4b017e235c725972f4ea8b395", func := "loop.example/g01403/laws.FnShells", spec := "fnShells", plainKeys := false, apart := false, narrowed := true }
def FnShellsUptoSaid : Prop := fnShellsUptoRow.holds Try.pinned (OpenSpec.upto fnShellsSpec)

end Rows
end Go.Proofs.Ytobbmffldbbhpaa
