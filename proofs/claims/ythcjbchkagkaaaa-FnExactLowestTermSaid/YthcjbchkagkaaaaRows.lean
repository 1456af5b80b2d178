/-
  No cell of these rows narrows 'for every input' (looked for: loops, veiled, ifaces, maps, wideKeys, modest, calm, conditions, laid).
  DERIVED. THE GIVEN ROWS OF THIS SEAT. 12 by the template 'for every input the law returns true; each argument reads behind the call as it read before'; 0 by the template 'total and deterministic' (their statements: YthcjbchkagkaaaaTotals.lean).
  GIVEN WITH THE SEED: the statements are not yours to turn. If you find one false, say at which input.
  Laid BY PROGRAM, IN A SANDBOX (cutbox-rows.mjs): the forced cells as the released guide's own fill.sh prints them over the translation ea9730a1e89057c2… (all of the seat's roots in one cut). By AI agents, Wed Nov 11 2026. No macro, syntax, notation, axiom, sorry.
-/
import Derived.Test.YthcjbchkagkaaaaChecked
import GoSem.Claim
import GoSem.ClaimJoined
import GoSem.ClaimMapViews
import Derived.JoinedTies
import Derived.KernelRfl
namespace Go.Proofs.Ythcjbchkagkaaaa
/- THE CELL 'sum', in the pinned program and in every row, IS THE sha256 OF THE DUMP (.gsa) THAT YthcjbchkagkaaaaProg.lean LOADS. Nothing in Lean hashes anything: it is a label: what it is worth is what the hold of that sum in a sandbox is worth. -/
noncomputable def Try.pinned : Pinned := { name := "ythcjbchkagkaaaa", sum := "ea9730a1e89057c2928d0cedc392cc124f98d5fa9b08cfcacf22d42d3139f71f", checked := Try.checked }
namespace Rows
def none {H : Type} : Left H := { results := [], args := [] }

/-- 'laws.FnExactHeldShare': WHATEVER THE INPUT: true; the input reads as it did. -/
def fnExactHeldShareSpec : ChangeSpec := { name := "fnExactHeldShare", fn := fun _ => fun
  | [d1, d2, d3, d4] => { results := [.lit (.bool true)], args := [d1, d2, d3, d4] }
  | _ => none }
def fnExactHeldShareRow : OpenClaim := { program := "ythcjbchkagkaaaa", sum := "ea9730a1e89057c2928d0cedc392cc124f98d5fa9b08cfcacf22d42d3139f71f", func := "loop.example/g01403/laws.FnExactHeldShare", spec := "fnExactHeldShare", unfollowed := true, recurses := true, plainKeys := false, apart := false }
def FnExactHeldShareSaid : Prop := fnExactHeldShareRow.holds Try.pinned (OpenSpec.ofChange fnExactHeldShareSpec)

/-- ITS FALSE NEIGHBOUR: 'it returns false'. Refute it at one input. -/
def fnExactHeldShareWrong : ChangeSpec := { name := "fnExactHeldShare", fn := fun _ => fun
  | [d1, d2, d3, d4] => { results := [.lit (.bool false)], args := [d1, d2, d3, d4] }
  | _ => none }
def FnExactHeldShareWrongFalsely : Prop := fnExactHeldShareRow.holds Try.pinned (OpenSpec.ofChange fnExactHeldShareWrong)

/-- 'laws.FnExactDampRest': WHATEVER THE INPUT: true; the input reads as it did. -/
def fnExactDampRestSpec : ChangeSpec := { name := "fnExactDampRest", fn := fun _ => fun
  | [d1, d2, d3, d4] => { results := [.lit (.bool true)], args := [d1, d2, d3, d4] }
  | _ => none }
def fnExactDampRestRow : OpenClaim := { program := "ythcjbchkagkaaaa", sum := "ea9730a1e89057c2928d0cedc392cc124f98d5fa9b08cfcacf22d42d3139f71f", func := "loop.example/g01403/laws.FnExactDampRest", spec := "fnExactDampRest", unfollowed := true, recurses := true, plainKeys := false, apart := false }
def FnExactDampRestSaid : Prop := fnExactDampRestRow.holds Try.pinned (OpenSpec.ofChange fnExactDampRestSpec)

/-- ITS FALSE NEIGHBOUR: 'it returns false'. Refute it at one input. -/
def fnExactDampRestWrong : ChangeSpec := { name := "fnExactDampRest", fn := fun _ => fun
  | [d1, d2, d3, d4] => { results := [.lit (.bool false)], args := [d1, d2, d3, d4] }
  | _ => none }
def FnExactDampRestWrongFalsely : Prop := fnExactDampRestRow.holds Try.pinned (OpenSpec.ofChange fnExactDampRestWrong)

/-- 'laws.FnExactCrossShare': WHATEVER THE INPUT: true; the input reads as it did. -/
def fnExactCrossShareSpec : ChangeSpec := { name := "fnExactCrossShare", fn := fun _ => fun
  | [d1, d2] => { results := [.lit (.bool true)], args := [d1, d2] }
  | _ => none }
def fnExactCrossShareRow : OpenClaim := { program := "ythcjbchkagkaaaa", sum := "ea9730a1e89057c2928d0cedc392cc124f98d5fa9b08cfcacf22d42d3139f71f", func := "loop.example/g01403/laws.FnExactCrossShare", spec := "fnExactCrossShare", inPlace := ["math.Float64frombits"], unfollowed := true, recurses := true, plainKeys := false, apart := false }
def FnExactCrossShareSaid : Prop := fnExactCrossShareRow.holds Try.pinned (OpenSpec.ofChange fnExactCrossShareSpec)

/-- ITS FALSE NEIGHBOUR: 'it returns false'. Refute it at one input. -/
def fnExactCrossShareWrong : ChangeSpec := { name := "fnExactCrossShare", fn := fun _ => fun
  | [d1, d2] => { results := [.lit (.bool false)], args := [d1, d2] }
  | _ => none }
def FnExactCrossShareWrongFalsely : Prop := fnExactCrossShareRow.holds Try.pinned (OpenSpec.ofChange fnExactCrossShareWrong)

/-- 'laws.FnTotals': WHATEVER THE INPUT: true; the input reads as it did. -/
def fnTotalsSpec : ChangeSpec := { name := "fnTotals", fn := fun _ => fun
  | [d1, d2] => { results := [.lit (.bool true)], args := [d1, d2] }
  | _ => none }
def fnTotalsRow : OpenClaim := { program := "ythcjbchkagkaaaa", sum := "ea9730a1e89057c2928d0cedc392cc124f98d5fa9b08cfcacf22d42d3139f71f", func := "loop.example/g01403/laws.FnTotals", spec := "fnTotals", unfollowed := true, recurses := true, plainKeys := false, apart := false }
def FnTotalsSaid : Prop := fnTotalsRow.holds Try.pinned (OpenSpec.ofChange fnTotalsSpec)

/-- ITS FALSE NEIGHBOUR: 'it returns false'. Refute it at one input. -/
def fnTotalsWrong : ChangeSpec := { name := "fnTotals", fn := fun _ => fun
  | [d1, d2] => { results := [.lit (.bool false)], args := [d1, d2] }
  | _ => none }
def FnTotalsWrongFalsely : Prop := fnTotalsRow.holds Try.pinned (OpenSpec.ofChange fnTotalsWrong)

/-- 'laws.FnExactLowestTerm': WHATEVER THE INPUT: true; the input reads as it did. -/
def fnExactLowestTermSpec : ChangeSpec := { name := "fnExactLowestTerm", fn := fun _ => fun
  | [d1, d2] => { results := [.lit (.bool true)], args := [d1, d2] }
  | _ => none }
def fnExactLowestTermRow : OpenClaim := { program := "ythcjbchkagkaaaa", sum := "ea9730a1e89057c2928d0cedc392cc124f98d5fa9b08cfcacf22d42d3139f71f", func := "loop.example/g01403/laws.FnExactLowestTerm", spec := "fnExactLowestTerm", plainKeys := false, apart := false }
def FnExactLowestTermSaid : Prop := fnExactLowestTermRow.holds Try.pinned (OpenSpec.ofChange fnExactLowestTermSpec)

/-- ITS FALSE NEIGHBOUR: 'it returns false'. Refute it at one input. -/
def fnExactLowestTermWrong : ChangeSpec := { name := "fnExactLowestTerm", fn := fun _ => fun
  | [d1, d2] => { results := [.lit (.bool false)], args := [d1, d2] }
  | _ => none }
def FnExactLowestTermWrongFalsely : Prop := fnExactLowestTermRow.holds Try.pinned (OpenSpec.ofChange fnExactLowestTermWrong)

/-- 'laws.FnExactCountTotals': WHATEVER THE INPUT: true; the input reads as it did. -/
def fnExactCountTotalsSpec : ChangeSpec := { name := "fnExactCountTotals", fn := fun _ => fun
  | [d] => { results := [.lit (.bool true)], args := [d] }
  | _ => none }
def fnExactCountTotalsRow : OpenClaim := { program := "ythcjbchkagkaaaa", sum := "ea9730a1e89057c2928d0cedc392cc124f98d5fa9b08cfcacf22d42d3139f71f", func := "loop.example/g01403/laws.FnExactCountTotals", spec := "fnExactCountTotals", unfollowed := true, recurses := true, plainKeys := false, apart := false }
def FnExactCountTotalsSaid : Prop := fnExactCountTotalsRow.holds Try.pinned (OpenSpec.ofChange fnExactCountTotalsSpec)

/-- ITS FALSE NEIGHBOUR: 'it returns false'. Refute it at one input. -/
def fnExactCountTotalsWrong : ChangeSpec := { name := "fnExactCountTotals", fn := fun _ => fun
  | [d] => { results := [.lit (.bool false)], args := [d] }
  | _ => none }
def FnExactCountTotalsWrongFalsely : Prop := fnExactCountTotalsRow.holds Try.pinned (OpenSpec.ofChange fnExactCountTotalsWrong)

/-- 'laws.FnExactBranchHead': WHATEVER THE INPUT: true; the input reads as it did. -/
def fnExactBranchHeadSpec : ChangeSpec := { name := "fnExactBranchHead", fn := fun _ => fun
  | [d1, d2, d3, d4] => { results := [.lit (.bool true)], args := [d1, d2, d3, d4] }
  | _ => none }
def fnExactBranchHeadRow : OpenClaim := { program := "ythcjbchkagkaaaa", sum := "ea9730a1e89057c2928d0cedc392cc124f98d5fa9b08cfcacf22d42d3139f71f", func := "loop.example/g01403/laws.FnExactBranchHead", spec := "fnExactBranchHead", unfollowed := true, recurses := true, plainKeys := false, apart := false }
def FnExactBranchHeadSaid : Prop := fnExactBranchHeadRow.holds Try.pinned (OpenSpec.ofChange fnExactBranchHeadSpec)

/-- ITS FALSE NEIGHBOUR: 'it returns false'. Refute it at one input. -/
def fnExactBranchHeadWrong : ChangeSpec := { name := "fnExactBranchHead", fn := fun _ => fun
  | [d1, d2, d3, d4] => { results := [.lit (.bool false)], args := [d1, d2, d3, d4] }
  | _ => none }
def FnExactBranchHeadWrongFalsely : Prop := fnExactBranchHeadRow.holds Try.pinned (OpenSpec.ofChange fnExactBranchHeadWrong)

/-- 'laws.FnExactTermsOf': WHATEVER THE INPUT: true; the input reads as it did. -/
def fnExactTermsOfSpec : ChangeSpec := { name := "fnExactTermsOf", fn := fun _ => fun
  | [d1, d2] => { results := [.lit (.bool true)], args := [d1, d2] }
  | _ => none }
def fnExactTermsOfRow : OpenClaim := { program := "ythcjbchkagkaaaa", sum := "ea9730a1e89057c2928d0cedc392cc124f98d5fa9b08cfcacf22d42d3139f71f", func := "loop.example/g01403/laws.FnExactTermsOf", spec := "fnExactTermsOf", plainKeys := false, apart := false }
def FnExactTermsOfSaid : Prop := fnExactTermsOfRow.holds Try.pinned (OpenSpec.ofChange fnExactTermsOfSpec)

/-- ITS FALSE NEIGHBOUR: 'it returns false'. Refute it at one input. -/
def fnExactTermsOfWrong : ChangeSpec := { name := "fnExactTermsOf", fn := fun _ => fun
  | [d1, d2] => { results := [.lit (.bool false)], args := [d1, d2] }
  | _ => none }
def FnExactTermsOfWrongFalsely : Prop := fnExactTermsOfRow.holds Try.pinned (OpenSpec.ofChange fnExactTermsOfWrong)

/-- 'laws.FnExactBranchOf': WHATEVER THE INPUT: true; the input reads as it did. -/
def fnExactBranchOfSpec : ChangeSpec := { name := "fnExactBranchOf", fn := fun _ => fun
  | [d1, d2, d3, d4, d5] => { results := [.lit (.bool true)], args := [d1, d2, d3, d4, d5] }
  | _ => none }
def fnExactBranchOfRow : OpenClaim := { program := "ythcjbchkagkaaaa", sum := "ea9730a1e89057c2928d0cedc392cc124f98d5fa9b08cfcacf22d42d3139f71f", func := "loop.example/g01403/laws.FnExactBranchOf", spec := "fnExactBranchOf", unfollowed := true, recurses := true, plainKeys := false, apart := false }
def FnExactBranchOfSaid : Prop := fnExactBranchOfRow.holds Try.pinned (OpenSpec.ofChange fnExactBranchOfSpec)

/-- ITS FALSE NEIGHBOUR: 'it returns false'. Refute it at one input. -/
def fnExactBranchOfWrong : ChangeSpec := { name := "fnExactBranchOf", fn := fun _ => fun
  | [d1, d2, d3, d4, d5] => { results := [.lit (.bool false)], args := [d1, d2, d3, d4, d5] }
  | _ => none }
def FnExactBranchOfWrongFalsely : Prop := fnExactBranchOfRow.holds Try.pinned (OpenSpec.ofChange fnExactBranchOfWrong)

/-- 'laws.FnExactDampSteps': WHATEVER THE INPUT: true; the input reads as it did. -/
def fnExactDampStepsSpec : ChangeSpec := { name := "fnExactDampSteps", fn := fun _ => fun
  | [d1, d2, d3, d4, d5, d6, d7] => { results := [.lit (.bool true)], args := [d1, d2, d3, d4, d5, d6, d7] }
  | _ => none }
def fnExactDampStepsRow : OpenClaim := { program := "ythcjbchkagkaaaa", sum := "ea9730a1e89057c2928d0cedc392cc124f98d5fa9b08cfcacf22d42d3139f71f", func := "loop.example/g01403/laws.FnExactDampSteps", spec := "fnExactDampSteps", unfollowed := true, recurses := true, plainKeys := false, apart := false }
def FnExactDampStepsSaid : Prop := fnExactDampStepsRow.holds Try.pinned (OpenSpec.ofChange fnExactDampStepsSpec)

/-- ITS FALSE NEIGHBOUR: 'it returns false'. Refute it at one input. -/
def fnExactDampStepsWrong : ChangeSpec := { name := "fnExactDampSteps", fn := fun _ => fun
  | [d1, d2, d3, d4, d5, d6, d7] => { results := [.lit (.bool false)], args := [d1, d2, d3, d4, d5, d6, d7] }
  | _ => none }
def FnExactDampStepsWrongFalsely : Prop := fnExactDampStepsRow.holds Try.pinned (OpenSpec.ofChange fnExactDampStepsWrong)

/-- 'laws.FnExactCombNearest': WHATEVER THE INPUT: true; the input reads as it did. -/
def fnExactCombNearestSpec : ChangeSpec := { name := "fnExactCombNearest", fn := fun _ => fun
  | [d1, d2, d3] => { results := [.lit (.bool true)], args := [d1, d2, d3] }
  | _ => none }
def fnExactCombNearestRow : OpenClaim := { program := "ythcjbchkagkaaaa", sum := "ea9730a1e89057c2928d0cedc392cc124f98d5fa9b08cfcacf22d42d3139f71f", func := "loop.example/g01403/laws.FnExactCombNearest", spec := "fnExactCombNearest", inPlace := ["math.archFloor", "math.Float64bits", "math.Float64frombits", "math.archTrunc"], unfollowed := true, recurses := true, plainKeys := false, apart := false }
def FnExactCombNearestSaid : Prop := fnExactCombNearestRow.holds Try.pinned (OpenSpec.ofChange fnExactCombNearestSpec)

/-- ITS FALSE NEIGHBOUR: 'it returns false'. Refute it at one input. -/
def fnExactCombNearestWrong : ChangeSpec := { name := "fnExactCombNearest", fn := fun _ => fun
  | [d1, d2, d3] => { results := [.lit (.bool false)], args := [d1, d2, d3] }
  | _ => none }
def FnExactCombNearestWrongFalsely : Prop := fnExactCombNearestRow.holds Try.pinned (OpenSpec.ofChange fnExactCombNearestWrong)

/-- 'laws.FnExactLightOf': WHATEVER THE INPUT: true; the input reads as it did. -/
def fnExactLightOfSpec : ChangeSpec := { name := "fnExactLightOf", fn := fun _ => fun
  | [d1, d2, d3, d4] => { results := [.lit (.bool true)], args := [d1, d2, d3, d4] }
  | _ => none }
def fnExactLightOfRow : OpenClaim := { program := "ythcjbchkagkaaaa", sum := "ea9730a1e89057c2928d0cedc392cc124f98d5fa9b08cfcacf22d42d3139f71f", func := "loop.example/g01403/laws.FnExactLightOf", spec := "fnExactLightOf", inPlace := ["math.sqrt"], unfollowed := true, recurses := true, plainKeys := false, apart := false }
def FnExactLightOfSaid : Prop := fnExactLightOfRow.holds Try.pinned (OpenSpec.ofChange fnExactLightOfSpec)

/-- ITS FALSE NEIGHBOUR: 'it returns false'. Refute it at one input. -/
def fnExactLightOfWrong : ChangeSpec := { name := "fnExactLightOf", fn := fun _ => fun
  | [d1, d2, d3, d4] => { results := [.lit (.bool false)], args := [d1, d2, d3, d4] }
  | _ => none }
def FnExactLightOfWrongFalsely : Prop := fnExactLightOfRow.holds Try.pinned (OpenSpec.ofChange fnExactLightOfWrong)

/- THE SECOND FORM. 'bulk': how many values and letters a reading holds, each counted each time it is reached (what is shared counts as often as it is met; a slice's spare places count too). A statement '..UptoSaid' is the law's where the arguments, and the package variables that the reading takes, are together of bulk at most 1048576: NARROWER than '..Said'. Prove '..Said' where nothing that the law and all that it calls make is longer than what came in: it says more and counts as full. Else prove '..UptoSaid'. A law counts once. -/
mutual
def uptoBulk {H : Type} : DataW H → Nat
  | .lit (.string bytes) => bytes.length + 1
  | .lit _ => 1
  | .nil => 1
  | .ptr d => uptoBulk d + 1
  | .slice elems spare => uptoBulkAll elems + uptoBulkAll spare + 1
  | .agg parts => uptoBulkAll parts + 1
  | .iface _ d => uptoBulk d + 1
  | .map entries => uptoBulkEntries entries + 1
  | .held _ => 1
def uptoBulkAll {H : Type} : List (DataW H) → Nat
  | [] => 0
  | d :: r => uptoBulk d + uptoBulkAll r
def uptoBulkEntries {H : Type} : List (Lit × DataW H) → Nat
  | [] => 0
  | x :: r => uptoBulkEntry x + uptoBulkEntries r
def uptoBulkEntry {H : Type} : Lit × DataW H → Nat
  | (.string bytes, d) => bytes.length + uptoBulk d + 1
  | (_, d) => uptoBulk d + 1
 end
def uptoSmall : (H : Type) → List (DataW H) → Bool := fun _ ds => decide (uptoBulkAll ds ≤ 1048576)
def OpenSpec.upto (s : _root_.Go.ChangeSpec) : _root_.Go.OpenSpec := { _root_.Go.OpenSpec.ofChange s with cond := some uptoSmall }

/-- 'laws.FnExactHeldShare', WHERE WHAT IT READS IS OF BULK AT MOST 1048576: true; the input reads as it did. -/
def fnExactHeldShareUptoRow : OpenClaim := { program := "ythcjbchkagkaaaa", sum := "ea9730a1e89057c2928d0cedc392cc124f98d5fa9b08cfcacf22d42d3139f71f", func := "loop.example/g01403/laws.FnExactHeldShare", spec := "fnExactHeldShare", unfollowed := true, recurses := true, plainKeys := false, apart := false, narrowed := true }
def FnExactHeldShareUptoSaid : Prop := fnExactHeldShareUptoRow.holds Try.pinned (OpenSpec.upto fnExactHeldShareSpec)

/-- 'laws.FnExactDampRest', WHERE WHAT IT READS IS OF BULK AT MOST 1048576: true; the input reads as it did. -/
def fnExactDampRestUptoRow : OpenClaim := { program := "ythcjbchkagkaaaa", sum := "ea9730a1e89057c2928d0cedc392cc124f98d5fa9b08cfcacf22d42d3139f71f", func := "loop.example/g01403/laws.FnExactDampRest", spec := "fnExactDampRest", unfollowed := true, recurses := true, plainKeys := false, apart := false, narrowed := true }
def FnExactDampRestUptoSaid : Prop := fnExactDampRestUptoRow.holds Try.pinned (OpenSpec.upto fnExactDampRestSpec)

/-- 'laws.FnExactCrossShare', WHERE WHAT IT READS IS OF BULK AT MOST 1048576: true; the input reads as it did. -/
def fnExactCrossShareUptoRow : OpenClaim := { program := "ythcjbchkagkaaaa", sum := "ea9730a1e89057c2928d0cedc392cc124f98d5fa9b08cfcacf22d42d3139f71f", func := "loop.example/g01403/laws.FnExactCrossShare", spec := "fnExactCrossShare", inPlace := ["math.Float64frombits"], unfollowed := true, recurses := true, plainKeys := false, apart := false, narrowed := true }
def FnExactCrossShareUptoSaid : Prop := fnExactCrossShareUptoRow.holds Try.pinned (OpenSpec.upto fnExactCrossShareSpec)

/-- 'laws.FnTotals', WHERE WHAT IT READS IS OF BULK AT MOST 1048576: true; the input reads as it did. -/
def fnTotalsUptoRow : OpenClaim := { program := "ythcjbchkagkaaaa", sum := "ea9730a1e89057c2928d0cedc392cc124f98d5fa9b08cfcacf22d42d3139f71f", func := "loop.example/g01403/laws.FnTotals", spec := "fnTotals", unfollowed := true, recurses := true, plainKeys := false, apart := false, narrowed := true }
def FnTotalsUptoSaid : Prop := fnTotalsUptoRow.holds Try.pinned (OpenSpec.upto fnTotalsSpec)

/-- 'laws.FnExactLowestTerm', WHERE WHAT IT READS IS OF BULK AT MOST 1048576: true; the input reads as it did. -/
def fnExactLowestTermUptoRow : OpenClaim := { program := "ythcjbchkagkaaaa", sum := "ea9730a1e89057c2928d0cedc392cc124f98d5fa9b08cfcacf22d42d3139f71f", func := "loop.example/g01403/laws.FnExactLowestTerm", spec := "fnExactLowestTerm", plainKeys := false, apart := false, narrowed := true }
def FnExactLowestTermUptoSaid : Prop := fnExactLowestTermUptoRow.holds Try.pinned (OpenSpec.upto fnExactLowestTermSpec)

/-- 'laws.FnExactCountTotals', WHERE WHAT IT READS IS OF BULK AT MOST 1048576: true; the input reads as it did. -/
def fnExactCountTotalsUptoRow : OpenClaim := { program := "ythcjbchkagkaaaa", sum := "ea9730a1e89057c2928d0cedc392cc124f98d5fa9b08cfcacf22d42d3139f71f", func := "loop.example/g01403/laws.FnExactCountTotals", spec := "fnExactCountTotals", unfollowed := true, recurses := true, plainKeys := false, apart := false, narrowed := true }
def FnExactCountTotalsUptoSaid : Prop := fnExactCountTotalsUptoRow.holds Try.pinned (OpenSpec.upto fnExactCountTotalsSpec)

/-- 'laws.FnExactBranchHead', WHERE WHAT IT READS IS OF BULK AT MOST 1048576: true; the input reads as it did. -/
def fnExactBranchHeadUptoRow : OpenClaim := { program := "ythcjbchkagkaaaa", sum := "ea9730a1e89057c2928d0cedc392cc124f98d5fa9b08cfcacf22d42d3139f71f", func := "loop.example/g01403/laws.FnExactBranchHead", spec := "fnExactBranchHead", unfollowed := true, recurses := true, plainKeys := false, apart := false, narrowed := true }
def FnExactBranchHeadUptoSaid : Prop := fnExactBranchHeadUptoRow.holds Try.pinned (OpenSpec.upto fnExactBranchHeadSpec)

/-- 'laws.FnExactTermsOf', WHERE WHAT IT READS IS OF BULK AT MOST 1048576: true; the input reads as it did. -/
def fnExactTermsOfUptoRow : OpenClaim := { program := "ythcjbchkagkaaaa", sum := "ea9730a1e89057c2928d0cedc392cc124f98d5fa9b08cfcacf22d42d3139f71f", func := "loop.example/g01403/laws.FnExactTermsOf", spec := "fnExactTermsOf", plainKeys := false, apart := false, narrowed := true }
def FnExactTermsOfUptoSaid : Prop := fnExactTermsOfUptoRow.holds Try.pinned (OpenSpec.upto fnExactTermsOfSpec)

/-- 'laws.FnExactBranchOf', WHERE WHAT IT READS IS OF BULK AT MOST 1048576: true; the input reads as it did. -/
def fnExactBranchOfUptoRow : OpenClaim := { program := "ythcjbchkagkaaaa", sum := "ea9730a1e89057c2928d0cedc392cc124f98d5fa9b08cfcacf22d42d3139f71f", func := "loop.example/g01403/laws.FnExactBranchOf", spec := "fnExactBranchOf", unfollowed := true, recurses := true, plainKeys := false, apart := false, narrowed := true }
def FnExactBranchOfUptoSaid : Prop := fnExactBranchOfUptoRow.holds Try.pinned (OpenSpec.upto fnExactBranchOfSpec)

/-- 'laws.FnExactDampSteps', WHERE WHAT IT READS IS OF BULK AT MOST 1048576: true; the input reads as it did. -/
def fnExactDampStepsUptoRow : OpenClaim := { program := "ythcjbchkagkaaaa", sum := "ea9730a1e89057c2928d0cedc392cc124f98d5fa9b08cfcacf22d42d3139f71f", func := "loop.example/g01403/laws.FnExactDampSteps", spec := "fnExactDampSteps", unfollowed := true, recurses := true, plainKeys := false, apart := false, narrowed := true }
def FnExactDampStepsUptoSaid : Prop := fnExactDampStepsUptoRow.holds Try.pinned (OpenSpec.upto fnExactDampStepsSpec)

/-- 'laws.FnExactCombNearest', WHERE WHAT IT READS IS OF BULK AT MOST 1048576: true; the input reads as it did. -/
def fnExactCombNearestUptoRow : OpenClaim := { program := "ythcjbchkagkaaaa", sum := "ea9730a1e89057c2928d0cedc392cc124f98d5fa9b08cfcacf22d42d3139f71f", func := "loop.example/g01403/laws.FnExactCombNearest", spec := "fnExactCombNearest", inPlace := ["math.archFloor", "math.Float64bits", "math.Float64frombits", "math.archTrunc"], unfollowed := true, recurses := true, plainKeys := false, apart := false, narrowed := true }
def FnExactCombNearestUptoSaid : Prop := fnExactCombNearestUptoRow.holds Try.pinned (OpenSpec.upto fnExactCombNearestSpec)

/-- 'laws.FnExactLightOf', WHERE WHAT IT READS IS OF BULK AT MOST 1048576: true; the input reads as it did. -/
def fnExactLightOfUptoRow : OpenClaim := { program := "ythcjbchkagkaaaa", sum := "ea9730a1e89057c2928d0cedc392cc124f98d5fa9b08cfcacf22d42d3139f71f", func := "loop.example/g01403/laws.FnExactLightOf", spec := "fnExactLightOf", inPlace := ["math.sqrt"], unfollowed := true, recurses := true, plainKeys := false, apart := false, narrowed := true }
def FnExactLightOfUptoSaid : Prop := fnExactLightOfUptoRow.holds Try.pinned (OpenSpec.upto fnExactLightOfSpec)

end Rows
end Go.Proofs.Ythcjbchkagkaaaa
