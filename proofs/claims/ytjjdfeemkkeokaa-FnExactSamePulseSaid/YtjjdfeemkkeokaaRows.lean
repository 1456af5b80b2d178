/-
  No cell of these rows narrows 'for every input' (looked for: loops, veiled, ifaces, maps, wideKeys, modest, calm, conditions, laid).
  DERIVED. THE GIVEN ROWS OF THIS SEAT. 12 by the template 'for every input the law returns true; each argument reads behind the call as it read before'; 0 by the template 'total and deterministic' (their statements: YtjjdfeemkkeokaaTotals.lean).
  GIVEN WITH THE SEED: the statements are not yours to turn. If you find one false, say at which input.
  Laid BY PROGRAM, IN A SANDBOX (cutbox-rows.mjs): the forced cells as the released guide's own fill.sh prints them over the translation 2112388c0039d82f… (all of the seat's roots in one cut). By AI agents, Wed Nov 11 2026. No macro, syntax, notation, axiom, sorry.
-/
import Derived.Test.YtjjdfeemkkeokaaChecked
import GoSem.Claim
import GoSem.ClaimJoined
import GoSem.ClaimMapViews
import Derived.JoinedTies
import Derived.KernelRfl
namespace Go.Proofs.Ytjjdfeemkkeokaa
/- THE CELL 'sum', in the pinned program and in every row, IS THE sha256 OF THE DUMP (.gsa) THAT YtjjdfeemkkeokaaProg.lean LOADS. Nothing in Lean hashes anything: it is a label: what it is worth is what the hold of that sum in a sandbox is worth. -/
noncomputable def Try.pinned : Pinned := { name := "ytjjdfeemkkeokaa", sum := "2112388c0039d82f38dd48eb166ffcc378ad98661129d0d06caec5d773b2a6d6", checked := Try.checked }
namespace Rows
def none {H : Type} : Left H := { results := [], args := [] }

/-- 'laws.FnExactIsTurn': WHATEVER THE INPUT: true; the input reads as it did. -/
def fnExactIsTurnSpec : ChangeSpec := { name := "fnExactIsTurn", fn := fun _ => fun
  | [d1, d2] => { results := [.lit (.bool true)], args := [d1, d2] }
  | _ => none }
def fnExactIsTurnRow : OpenClaim := { program := "ytjjdfeemkkeokaa", sum := "2112388c0039d82f38dd48eb166ffcc378ad98661129d0d06caec5d773b2a6d6", func := "loop.example/g01403/laws.FnExactIsTurn", spec := "fnExactIsTurn", apart := false }
def FnExactIsTurnSaid : Prop := fnExactIsTurnRow.holds Try.pinned (OpenSpec.ofChange fnExactIsTurnSpec)

/-- ITS FALSE NEIGHBOUR: 'it returns false'. Refute it at one input. -/
def fnExactIsTurnWrong : ChangeSpec := { name := "fnExactIsTurn", fn := fun _ => fun
  | [d1, d2] => { results := [.lit (.bool false)], args := [d1, d2] }
  | _ => none }
def FnExactIsTurnWrongFalsely : Prop := fnExactIsTurnRow.holds Try.pinned (OpenSpec.ofChange fnExactIsTurnWrong)

/-- 'laws.FnExactRotorStates': WHATEVER THE INPUT: true; the input reads as it did. -/
def fnExactRotorStatesSpec : ChangeSpec := { name := "fnExactRotorStates", fn := fun _ => fun
  | [d1, d2] => { results := [.lit (.bool true)], args := [d1, d2] }
  | _ => none }
def fnExactRotorStatesRow : OpenClaim := { program := "ytjjdfeemkkeokaa", sum := "2112388c0039d82f38dd48eb166ffcc378ad98661129d0d06caec5d773b2a6d6", func := "loop.example/g01403/laws.FnExactRotorStates", spec := "fnExactRotorStates", apart := false }
def FnExactRotorStatesSaid : Prop := fnExactRotorStatesRow.holds Try.pinned (OpenSpec.ofChange fnExactRotorStatesSpec)

/-- ITS FALSE NEIGHBOUR: 'it returns false'. Refute it at one input. -/
def fnExactRotorStatesWrong : ChangeSpec := { name := "fnExactRotorStates", fn := fun _ => fun
  | [d1, d2] => { results := [.lit (.bool false)], args := [d1, d2] }
  | _ => none }
def FnExactRotorStatesWrongFalsely : Prop := fnExactRotorStatesRow.holds Try.pinned (OpenSpec.ofChange fnExactRotorStatesWrong)

/-- 'laws.FnExactValidPulse': WHATEVER THE INPUT: true; the input reads as it did. -/
def fnExactValidPulseSpec : ChangeSpec := { name := "fnExactValidPulse", fn := fun _ => fun
  | [d] => { results := [.lit (.bool true)], args := [d] }
  | _ => none }
def fnExactValidPulseRow : OpenClaim := { program := "ytjjdfeemkkeokaa", sum := "2112388c0039d82f38dd48eb166ffcc378ad98661129d0d06caec5d773b2a6d6", func := "loop.example/g01403/laws.FnExactValidPulse", spec := "fnExactValidPulse", unfollowed := true, recurses := true, apart := false }
def FnExactValidPulseSaid : Prop := fnExactValidPulseRow.holds Try.pinned (OpenSpec.ofChange fnExactValidPulseSpec)

/-- ITS FALSE NEIGHBOUR: 'it returns false'. Refute it at one input. -/
def fnExactValidPulseWrong : ChangeSpec := { name := "fnExactValidPulse", fn := fun _ => fun
  | [d] => { results := [.lit (.bool false)], args := [d] }
  | _ => none }
def FnExactValidPulseWrongFalsely : Prop := fnExactValidPulseRow.holds Try.pinned (OpenSpec.ofChange fnExactValidPulseWrong)

/-- 'laws.FnExactCanChange': WHATEVER THE INPUT: true; the input reads as it did. -/
def fnExactCanChangeSpec : ChangeSpec := { name := "fnExactCanChange", fn := fun _ => fun
  | [d1, d2, d3, d4] => { results := [.lit (.bool true)], args := [d1, d2, d3, d4] }
  | _ => none }
def fnExactCanChangeRow : OpenClaim := { program := "ytjjdfeemkkeokaa", sum := "2112388c0039d82f38dd48eb166ffcc378ad98661129d0d06caec5d773b2a6d6", func := "loop.example/g01403/laws.FnExactCanChange", spec := "fnExactCanChange", unfollowed := true, recurses := true, apart := false }
def FnExactCanChangeSaid : Prop := fnExactCanChangeRow.holds Try.pinned (OpenSpec.ofChange fnExactCanChangeSpec)

/-- ITS FALSE NEIGHBOUR: 'it returns false'. Refute it at one input. -/
def fnExactCanChangeWrong : ChangeSpec := { name := "fnExactCanChange", fn := fun _ => fun
  | [d1, d2, d3, d4] => { results := [.lit (.bool false)], args := [d1, d2, d3, d4] }
  | _ => none }
def FnExactCanChangeWrongFalsely : Prop := fnExactCanChangeRow.holds Try.pinned (OpenSpec.ofChange fnExactCanChangeWrong)

/-- 'laws.FnExactSamePulse': WHATEVER THE INPUT: true; the input reads as it did. -/
def fnExactSamePulseSpec : ChangeSpec := { name := "fnExactSamePulse", fn := fun _ => fun
  | [d1, d2] => { results := [.lit (.bool true)], args := [d1, d2] }
  | _ => none }
def fnExactSamePulseRow : OpenClaim := { program := "ytjjdfeemkkeokaa", sum := "2112388c0039d82f38dd48eb166ffcc378ad98661129d0d06caec5d773b2a6d6", func := "loop.example/g01403/laws.FnExactSamePulse", spec := "fnExactSamePulse", inPlace := ["math.Float32bits", "math.Float64bits"], apart := false }
def FnExactSamePulseSaid : Prop := fnExactSamePulseRow.holds Try.pinned (OpenSpec.ofChange fnExactSamePulseSpec)

/-- ITS FALSE NEIGHBOUR: 'it returns false'. Refute it at one input. -/
def fnExactSamePulseWrong : ChangeSpec := { name := "fnExactSamePulse", fn := fun _ => fun
  | [d1, d2] => { results := [.lit (.bool false)], args := [d1, d2] }
  | _ => none }
def FnExactSamePulseWrongFalsely : Prop := fnExactSamePulseRow.holds Try.pinned (OpenSpec.ofChange fnExactSamePulseWrong)

/-- 'laws.FnExactPumpLevel': WHATEVER THE INPUT: true; the input reads as it did. -/
def fnExactPumpLevelSpec : ChangeSpec := { name := "fnExactPumpLevel", fn := fun _ => fun
  | [d1, d2] => { results := [.lit (.bool true)], args := [d1, d2] }
  | _ => none }
def fnExactPumpLevelRow : OpenClaim := { program := "ytjjdfeemkkeokaa", sum := "2112388c0039d82f38dd48eb166ffcc378ad98661129d0d06caec5d773b2a6d6", func := "loop.example/g01403/laws.FnExactPumpLevel", spec := "fnExactPumpLevel", unfollowed := true, recurses := true, apart := false }
def FnExactPumpLevelSaid : Prop := fnExactPumpLevelRow.holds Try.pinned (OpenSpec.ofChange fnExactPumpLevelSpec)

/-- ITS FALSE NEIGHBOUR: 'it returns false'. Refute it at one input. -/
def fnExactPumpLevelWrong : ChangeSpec := { name := "fnExactPumpLevel", fn := fun _ => fun
  | [d1, d2] => { results := [.lit (.bool false)], args := [d1, d2] }
  | _ => none }
def FnExactPumpLevelWrongFalsely : Prop := fnExactPumpLevelRow.holds Try.pinned (OpenSpec.ofChange fnExactPumpLevelWrong)

/-- 'laws.FnExactLightSteps': WHATEVER THE INPUT: true; the input reads as it did. -/
def fnExactLightStepsSpec : ChangeSpec := { name := "fnExactLightSteps", fn := fun _ => fun
  | [d1, d2, d3, d4, d5, d6, d7, d8] => { results := [.lit (.bool true)], args := [d1, d2, d3, d4, d5, d6, d7, d8] }
  | _ => none }
def fnExactLightStepsRow : OpenClaim := { program := "ytjjdfeemkkeokaa", sum := "2112388c0039d82f38dd48eb166ffcc378ad98661129d0d06caec5d773b2a6d6", func := "loop.example/g01403/laws.FnExactLightSteps", spec := "fnExactLightSteps", unfollowed := true, recurses := true, apart := false }
def FnExactLightStepsSaid : Prop := fnExactLightStepsRow.holds Try.pinned (OpenSpec.ofChange fnExactLightStepsSpec)

/-- ITS FALSE NEIGHBOUR: 'it returns false'. Refute it at one input. -/
def fnExactLightStepsWrong : ChangeSpec := { name := "fnExactLightSteps", fn := fun _ => fun
  | [d1, d2, d3, d4, d5, d6, d7, d8] => { results := [.lit (.bool false)], args := [d1, d2, d3, d4, d5, d6, d7, d8] }
  | _ => none }
def FnExactLightStepsWrongFalsely : Prop := fnExactLightStepsRow.holds Try.pinned (OpenSpec.ofChange fnExactLightStepsWrong)

/-- 'laws.FnExactTotalsOf': WHATEVER THE INPUT: true; the input reads as it did. -/
def fnExactTotalsOfSpec : ChangeSpec := { name := "fnExactTotalsOf", fn := fun _ => fun
  | [d1, d2] => { results := [.lit (.bool true)], args := [d1, d2] }
  | _ => none }
def fnExactTotalsOfRow : OpenClaim := { program := "ytjjdfeemkkeokaa", sum := "2112388c0039d82f38dd48eb166ffcc378ad98661129d0d06caec5d773b2a6d6", func := "loop.example/g01403/laws.FnExactTotalsOf", spec := "fnExactTotalsOf", unfollowed := true, recurses := true, apart := false }
def FnExactTotalsOfSaid : Prop := fnExactTotalsOfRow.holds Try.pinned (OpenSpec.ofChange fnExactTotalsOfSpec)

/-- ITS FALSE NEIGHBOUR: 'it returns false'. Refute it at one input. -/
def fnExactTotalsOfWrong : ChangeSpec := { name := "fnExactTotalsOf", fn := fun _ => fun
  | [d1, d2] => { results := [.lit (.bool false)], args := [d1, d2] }
  | _ => none }
def FnExactTotalsOfWrongFalsely : Prop := fnExactTotalsOfRow.holds Try.pinned (OpenSpec.ofChange fnExactTotalsOfWrong)

/-- 'laws.FnExactFirstTops': WHATEVER THE INPUT: true; the input reads as it did. -/
def fnExactFirstTopsSpec : ChangeSpec := { name := "fnExactFirstTops", fn := fun _ => fun
  | [d1, d2, d3] => { results := [.lit (.bool true)], args := [d1, d2, d3] }
  | _ => none }
def fnExactFirstTopsRow : OpenClaim := { program := "ytjjdfeemkkeokaa", sum := "2112388c0039d82f38dd48eb166ffcc378ad98661129d0d06caec5d773b2a6d6", func := "loop.example/g01403/laws.FnExactFirstTops", spec := "fnExactFirstTops", unfollowed := true, recurses := true, apart := false }
def FnExactFirstTopsSaid : Prop := fnExactFirstTopsRow.holds Try.pinned (OpenSpec.ofChange fnExactFirstTopsSpec)

/-- ITS FALSE NEIGHBOUR: 'it returns false'. Refute it at one input. -/
def fnExactFirstTopsWrong : ChangeSpec := { name := "fnExactFirstTops", fn := fun _ => fun
  | [d1, d2, d3] => { results := [.lit (.bool false)], args := [d1, d2, d3] }
  | _ => none }
def FnExactFirstTopsWrongFalsely : Prop := fnExactFirstTopsRow.holds Try.pinned (OpenSpec.ofChange fnExactFirstTopsWrong)

/-- 'laws.FnExactTopLevels': WHATEVER THE INPUT: true; the input reads as it did. -/
def fnExactTopLevelsSpec : ChangeSpec := { name := "fnExactTopLevels", fn := fun _ => fun
  | [d1, d2, d3] => { results := [.lit (.bool true)], args := [d1, d2, d3] }
  | _ => none }
def fnExactTopLevelsRow : OpenClaim := { program := "ytjjdfeemkkeokaa", sum := "2112388c0039d82f38dd48eb166ffcc378ad98661129d0d06caec5d773b2a6d6", func := "loop.example/g01403/laws.FnExactTopLevels", spec := "fnExactTopLevels", unfollowed := true, recurses := true, apart := false }
def FnExactTopLevelsSaid : Prop := fnExactTopLevelsRow.holds Try.pinned (OpenSpec.ofChange fnExactTopLevelsSpec)

/-- ITS FALSE NEIGHBOUR: 'it returns false'. Refute it at one input. -/
def fnExactTopLevelsWrong : ChangeSpec := { name := "fnExactTopLevels", fn := fun _ => fun
  | [d1, d2, d3] => { results := [.lit (.bool false)], args := [d1, d2, d3] }
  | _ => none }
def FnExactTopLevelsWrongFalsely : Prop := fnExactTopLevelsRow.holds Try.pinned (OpenSpec.ofChange fnExactTopLevelsWrong)

/-- 'laws.FnExactRotorLevels': WHATEVER THE INPUT: true; the input reads as it did. -/
def fnExactRotorLevelsSpec : ChangeSpec := { name := "fnExactRotorLevels", fn := fun _ => fun
  | [d1, d2, d3] => { results := [.lit (.bool true)], args := [d1, d2, d3] }
  | _ => none }
def fnExactRotorLevelsRow : OpenClaim := { program := "ytjjdfeemkkeokaa", sum := "2112388c0039d82f38dd48eb166ffcc378ad98661129d0d06caec5d773b2a6d6", func := "loop.example/g01403/laws.FnExactRotorLevels", spec := "fnExactRotorLevels", unfollowed := true, recurses := true, apart := false }
def FnExactRotorLevelsSaid : Prop := fnExactRotorLevelsRow.holds Try.pinned (OpenSpec.ofChange fnExactRotorLevelsSpec)

/-- ITS FALSE NEIGHBOUR: 'it returns false'. Refute it at one input. -/
def fnExactRotorLevelsWrong : ChangeSpec := { name := "fnExactRotorLevels", fn := fun _ => fun
  | [d1, d2, d3] => { results := [.lit (.bool false)], args := [d1, d2, d3] }
  | _ => none }
def FnExactRotorLevelsWrongFalsely : Prop := fnExactRotorLevelsRow.holds Try.pinned (OpenSpec.ofChange fnExactRotorLevelsWrong)

/-- 'laws.FnExactCombPlaces': WHATEVER THE INPUT: true; the input reads as it did. -/
def fnExactCombPlacesSpec : ChangeSpec := { name := "fnExactCombPlaces", fn := fun _ => fun
  | [d1, d2, d3] => { results := [.lit (.bool true)], args := [d1, d2, d3] }
  | _ => none }
def fnExactCombPlacesRow : OpenClaim := { program := "ytjjdfeemkkeokaa", sum := "2112388c0039d82f38dd48eb166ffcc378ad98661129d0d06caec5d773b2a6d6", func := "loop.example/g01403/laws.FnExactCombPlaces", spec := "fnExactCombPlaces", unfollowed := true, recurses := true, apart := false }
def FnExactCombPlacesSaid : Prop := fnExactCombPlacesRow.holds Try.pinned (OpenSpec.ofChange fnExactCombPlacesSpec)

/-- ITS FALSE NEIGHBOUR: 'it returns false'. Refute it at one input. -/
def fnExactCombPlacesWrong : ChangeSpec := { name := "fnExactCombPlaces", fn := fun _ => fun
  | [d1, d2, d3] => { results := [.lit (.bool false)], args := [d1, d2, d3] }
  | _ => none }
def FnExactCombPlacesWrongFalsely : Prop := fnExactCombPlacesRow.holds Try.pinned (OpenSpec.ofChange fnExactCombPlacesWrong)

/- THE SECOND FORM. 'bulk': how many values and letters a reading holds, each counted each time it is reached (what is shared counts as often as it is met; a slice's spare places count too). A statement '..UptoSaid' is the law's where the arguments, and the package variables that the reading takes, are together of bulk at most 1048576: NARROWER than '..Said'. Prove '..Said' where nothing that the law and all that it calls make is longer than what came in: it says more and counts as full. Else prove '..UptoSaid'. A law counts once. -/
mutual
def uptoBulk {H : Type} : DataW H → Nat
  | .lit (.string bytes) => bytes.length + 1
  | .lit _ => 1
  | .nil => 1
  | .ptr d => uptoBulk d + 1
  | .slice elems spare => uptoBulkAll elems + uptoBulkAll spare + 1
  | .agg parts => uptoBulkAll parts + 1
  | .iface _ d => uptoBulk d + 1
  | .map entries => uptoBulkEntries entries + 1
  | .held _ => 1
def uptoBulkAll {H : Type} : List (DataW H) → Nat
  | [] => 0
  | d :: r => uptoBulk d + uptoBulkAll r
def uptoBulkEntries {H : Type} : List (Lit × DataW H) → Nat
  | [] => 0
  | x :: r => uptoBulkEntry x + uptoBulkEntries r
def uptoBulkEntry {H : Type} : Lit × DataW H → Nat
  | (.string bytes, d) => bytes.length + uptoBulk d + 1
  | (_, d) => uptoBulk d + 1
 end
def uptoSmall : (H : Type) → List (DataW H) → Bool := fun _ ds => decide (uptoBulkAll ds ≤ 1048576)
def OpenSpec.upto (s : _root_.Go.ChangeSpec) : _root_.Go.OpenSpec := { _root_.Go.OpenSpec.ofChange s with cond := some uptoSmall }

/-- 'laws.FnExactIsTurn', WHERE WHAT IT READS IS OF BULK AT MOST 1048576: true; the input reads as it did. -/
def fnExactIsTurnUptoRow : OpenClaim := { program := "ytjjdfeemkkeokaa", sum := "2112388c0039d82f38dd48eb166ffcc378ad98661129d0d06caec5d773b2a6d6", func := "loop.example/g01403/laws.FnExactIsTurn", spec := "fnExactIsTurn", apart := false, narrowed := true }
def FnExactIsTurnUptoSaid : Prop := fnExactIsTurnUptoRow.holds Try.pinned (OpenSpec.upto fnExactIsTurnSpec)

/-- 'laws.FnExactRotorStates', WHERE WHAT IT READS IS OF BULK AT MOST 1048576: true; the input reads as it did. -/
def fnExactRotorStatesUptoRow : OpenClaim := { program := "ytjjdfeemkkeokaa", sum := "2112388c0039d82f38dd48eb166ffcc378ad98661129d0d06caec5d773b2a6d6", func := "loop.example/g01403/laws.FnExactRotorStates", spec := "fnExactRotorStates", apart := false, narrowed := true }
def FnExactRotorStatesUptoSaid : Prop := fnExactRotorStatesUptoRow.holds Try.pinned (OpenSpec.upto fnExactRotorStatesSpec)

/-- 'laws.FnExactValidPulse', WHERE WHAT IT READS IS OF BULK AT MOST 1048576: true; the input reads as it did. -/
def fnExactValidPulseUptoRow : OpenClaim := { program := "ytjjdfeemkkeokaa", sum := "2112388c0039d82f38dd48eb166ffcc378ad98661129d0d06caec5d773b2a6d6", func := "loop.example/g01403/laws.FnExactValidPulse", spec := "fnExactValidPulse", unfollowed := true, recurses := true, apart := false, narrowed := true }
def FnExactValidPulseUptoSaid : Prop := fnExactValidPulseUptoRow.holds Try.pinned (OpenSpec.upto fnExactValidPulseSpec)

/-- 'laws.FnExactCanChange', WHERE WHAT IT READS IS OF BULK AT MOST 1048576: true; the input reads as it did. -/
def fnExactCanChangeUptoRow : OpenClaim := { program := "ytjjdfeemkkeokaa", sum := "2112388c0039d82f38dd48eb166ffcc378ad98661129d0d06caec5d773b2a6d6", func := "loop.example/g01403/laws.FnExactCanChange", spec := "fnExactCanChange", unfollowed := true, recurses := true, apart := false, narrowed := true }
def FnExactCanChangeUptoSaid : Prop := fnExactCanChangeUptoRow.holds Try.pinned (OpenSpec.upto fnExactCanChangeSpec)

/-- 'laws.FnExactSamePulse', WHERE WHAT IT READS IS OF BULK AT MOST 1048576: true; the input reads as it did. -/
def fnExactSamePulseUptoRow : OpenClaim := { program := "ytjjdfeemkkeokaa", sum := "2112388c0039d82f38dd48eb166ffcc378ad98661129d0d06caec5d773b2a6d6", func := "loop.example/g01403/laws.FnExactSamePulse", spec := "fnExactSamePulse", inPlace := ["math.Float32bits", "math.Float64bits"], apart := false, narrowed := true }
def FnExactSamePulseUptoSaid : Prop := fnExactSamePulseUptoRow.holds Try.pinned (OpenSpec.upto fnExactSamePulseSpec)

/-- 'laws.FnExactPumpLevel', WHERE WHAT IT READS IS OF BULK AT MOST 1048576: true; the input reads as it did. -/
def fnExactPumpLevelUptoRow : OpenClaim := { program := "ytjjdfeemkkeokaa", sum := "2112388c0039d82f38dd48eb166ffcc378ad98661129d0d06caec5d773b2a6d6", func := "loop.example/g01403/laws.FnExactPumpLevel", spec := "fnExactPumpLevel", unfollowed := true, recurses := true, apart := false, narrowed := true }
def FnExactPumpLevelUptoSaid : Prop := fnExactPumpLevelUptoRow.holds Try.pinned (OpenSpec.upto fnExactPumpLevelSpec)

/-- 'laws.FnExactLightSteps', WHERE WHAT IT READS IS OF BULK AT MOST 1048576: true; the input reads as it did. -/
def fnExactLightStepsUptoRow : OpenClaim := { program := "ytjjdfeemkkeokaa", sum := "2112388c0039d82f38dd48eb166ffcc378ad98661129d0d06caec5d773b2a6d6", func := "loop.example/g01403/laws.FnExactLightSteps", spec := "fnExactLightSteps", unfollowed := true, recurses := true, apart := false, narrowed := true }
def FnExactLightStepsUptoSaid : Prop := fnExactLightStepsUptoRow.holds Try.pinned (OpenSpec.upto fnExactLightStepsSpec)

/-- 'laws.FnExactTotalsOf', WHERE WHAT IT READS IS OF BULK AT MOST 1048576: true; the input reads as it did. -/
def fnExactTotalsOfUptoRow : OpenClaim := { program := "ytjjdfeemkkeokaa", sum := "2112388c0039d82f38dd48eb166ffcc378ad98661129d0d06caec5d773b2a6d6", func := "loop.example/g01403/laws.FnExactTotalsOf", spec := "fnExactTotalsOf", unfollowed := true, recurses := true, apart := false, narrowed := true }
def FnExactTotalsOfUptoSaid : Prop := fnExactTotalsOfUptoRow.holds Try.pinned (OpenSpec.upto fnExactTotalsOfSpec)

/-- 'laws.FnExactFirstTops', WHERE WHAT IT READS IS OF BULK AT MOST 1048576: true; the input reads as it did. -/
def fnExactFirstTopsUptoRow : OpenClaim := { program := "ytjjdfeemkkeokaa", sum := "2112388c0039d82f38dd48eb166ffcc378ad98661129d0d06caec5d773b2a6d6", func := "loop.example/g01403/laws.FnExactFirstTops", spec := "fnExactFirstTops", unfollowed := true, recurses := true, apart := false, narrowed := true }
def FnExactFirstTopsUptoSaid : Prop := fnExactFirstTopsUptoRow.holds Try.pinned (OpenSpec.upto fnExactFirstTopsSpec)

/-- 'laws.FnExactTopLevels', WHERE WHAT IT READS IS OF BULK AT MOST 1048576: true; the input reads as it did. -/
def fnExactTopLevelsUptoRow : OpenClaim := { program := "ytjjdfeemkkeokaa", sum := "2112388c0039d82f38dd48eb166ffcc378ad98661129d0d06caec5d773b2a6d6", func := "loop.example/g01403/laws.FnExactTopLevels", spec := "fnExactTopLevels", unfollowed := true, recurses := true, apart := false, narrowed := true }
def FnExactTopLevelsUptoSaid : Prop := fnExactTopLevelsUptoRow.holds Try.pinned (OpenSpec.upto fnExactTopLevelsSpec)

/-- 'laws.FnExactRotorLevels', WHERE WHAT IT READS IS OF BULK AT MOST 1048576: true; the input reads as it did. -/
def fnExactRotorLevelsUptoRow : OpenClaim := { program := "ytjjdfeemkkeokaa", sum := "2112388c0039d82f38dd48eb166ffcc378ad98661129d0d06caec5d773b2a6d6", func := "loop.example/g01403/laws.FnExactRotorLevels", spec := "fnExactRotorLevels", unfollowed := true, recurses := true, apart := false, narrowed := true }
def FnExactRotorLevelsUptoSaid : Prop := fnExactRotorLevelsUptoRow.holds Try.pinned (OpenSpec.upto fnExactRotorLevelsSpec)

/-- 'laws.FnExactCombPlaces', WHERE WHAT IT READS IS OF BULK AT MOST 1048576: true; the input reads as it did. -/
def fnExactCombPlacesUptoRow : OpenClaim := { program := "ytjjdfeemkkeokaa", sum := "2112388c0039d82f38dd48eb166ffcc378ad98661129d0d06caec5d773b2a6d6", func := "loop.example/g01403/laws.FnExactCombPlaces", spec := "fnExactCombPlaces", unfollowed := true, recurses := true, apart := false, narrowed := true }
def FnExactCombPlacesUptoSaid : Prop := fnExactCombPlacesUptoRow.holds Try.pinned (OpenSpec.upto fnExactCombPlacesSpec)

end Rows
end Go.Proofs.Ytjjdfeemkkeokaa
