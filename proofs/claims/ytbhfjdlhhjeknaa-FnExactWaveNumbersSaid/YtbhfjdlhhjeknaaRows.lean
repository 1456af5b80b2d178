/-
  No cell of these rows narrows 'for every input' (looked for: loops, veiled, ifaces, maps, wideKeys, modest, calm, conditions, laid).
  DERIVED. THE GIVEN ROWS OF THIS SEAT. 12 by the template 'for every input the law returns true; each argument reads behind the call as it read before'; 0 by the template 'total and deterministic' (their statements: YtbhfjdlhhjeknaaTotals.lean).
  GIVEN WITH THE SEED: the statements are not yours to turn. If you find one false, say at which input.
  Laid BY PROGRAM, IN A SANDBOX (cutbox-rows.mjs): the forced cells as the released guide's own fill.sh prints them over the translation 86fa17ec74980556… (all of the seat's roots in one cut). By AI agents, Wed Nov 11 2026. No macro, syntax, notation, axiom, sorry.
-/
import Derived.Test.YtbhfjdlhhjeknaaChecked
import GoSem.Claim
import GoSem.ClaimJoined
import GoSem.ClaimMapViews
import Derived.JoinedTies
import Derived.KernelRfl
namespace Go.Proofs.Ytbhfjdlhhjeknaa
/- THE CELL 'sum', in the pinned program and in every row, IS THE sha256 OF THE DUMP (.gsa) THAT YtbhfjdlhhjeknaaProg.lean LOADS. Nothing in Lean hashes anything: it is a label: what it is worth is what the hold of that sum in a sandbox is worth. -/
noncomputable def Try.pinned : Pinned := { name := "ytbhfjdlhhjeknaa", sum := "86fa17ec74980556e17ccf1799a2938b1e080688e67d24b479a28599c80b76be", checked := Try.checked }
namespace Rows
def none {H : Type} : Left H := { results := [], args := [] }

/-- 'laws.FnExactWaveNumbers': WHATEVER THE INPUT: true; the input reads as it did. -/
def fnExactWaveNumbersSpec : ChangeSpec := { name := "fnExactWaveNumbers", fn := fun _ => fun
  | [d1, d2] => { results := [.lit (.bool true)], args := [d1, d2] }
  | _ => none }
def fnExactWaveNumbersRow : OpenClaim := { program := "ytbhfjdlhhjeknaa", sum := "86fa17ec74980556e17ccf1799a2938b1e080688e67d24b479a28599c80b76be", func := "loop.example/g01403/laws.FnExactWaveNumbers", spec := "fnExactWaveNumbers", inPlace := ["math.sqrt"], unfollowed := true, recurses := true, apart := false }
def FnExactWaveNumbersSaid : Prop := fnExactWaveNumbersRow.holds Try.pinned (OpenSpec.ofChange fnExactWaveNumbersSpec)

/-- ITS FALSE NEIGHBOUR: 'it returns false'. Refute it at one input. -/
def fnExactWaveNumbersWrong : ChangeSpec := { name := "fnExactWaveNumbers", fn := fun _ => fun
  | [d1, d2] => { results := [.lit (.bool false)], args := [d1, d2] }
  | _ => none }
def FnExactWaveNumbersWrongFalsely : Prop := fnExactWaveNumbersRow.holds Try.pinned (OpenSpec.ofChange fnExactWaveNumbersWrong)

/-- 'laws.FnExactSwingShare': WHATEVER THE INPUT: true; the input reads as it did. -/
def fnExactSwingShareSpec : ChangeSpec := { name := "fnExactSwingShare", fn := fun _ => fun
  | [d1, d2, d3] => { results := [.lit (.bool true)], args := [d1, d2, d3] }
  | _ => none }
def fnExactSwingShareRow : OpenClaim := { program := "ytbhfjdlhhjeknaa", sum := "86fa17ec74980556e17ccf1799a2938b1e080688e67d24b479a28599c80b76be", func := "loop.example/g01403/laws.FnExactSwingShare", spec := "fnExactSwingShare", inPlace := ["math.sqrt", "math.Float32frombits", "math.Float64frombits", "math.Float64bits", "math.archTrunc"], unfollowed := true, recurses := true, apart := false }
def FnExactSwingShareSaid : Prop := fnExactSwingShareRow.holds Try.pinned (OpenSpec.ofChange fnExactSwingShareSpec)

/-- ITS FALSE NEIGHBOUR: 'it returns false'. Refute it at one input. -/
def fnExactSwingShareWrong : ChangeSpec := { name := "fnExactSwingShare", fn := fun _ => fun
  | [d1, d2, d3] => { results := [.lit (.bool false)], args := [d1, d2, d3] }
  | _ => none }
def FnExactSwingShareWrongFalsely : Prop := fnExactSwingShareRow.holds Try.pinned (OpenSpec.ofChange fnExactSwingShareWrong)

/-- 'laws.FnExactSplitLevels': WHATEVER THE INPUT: true; the input reads as it did. -/
def fnExactSplitLevelsSpec : ChangeSpec := { name := "fnExactSplitLevels", fn := fun _ => fun
  | [d1, d2, d3, d4, d5] => { results := [.lit (.bool true)], args := [d1, d2, d3, d4, d5] }
  | _ => none }
def fnExactSplitLevelsRow : OpenClaim := { program := "ytbhfjdlhhjeknaa", sum := "86fa17ec74980556e17ccf1799a2938b1e080688e67d24b479a28599c80b76be", func := "loop.example/g01403/laws.FnExactSplitLevels", spec := "fnExactSplitLevels", unfollowed := true, recurses := true, apart := false }
def FnExactSplitLevelsSaid : Prop := fnExactSplitLevelsRow.holds Try.pinned (OpenSpec.ofChange fnExactSplitLevelsSpec)

/-- ITS FALSE NEIGHBOUR: 'it returns false'. Refute it at one input. -/
def fnExactSplitLevelsWrong : ChangeSpec := { name := "fnExactSplitLevels", fn := fun _ => fun
  | [d1, d2, d3, d4, d5] => { results := [.lit (.bool false)], args := [d1, d2, d3, d4, d5] }
  | _ => none }
def FnExactSplitLevelsWrongFalsely : Prop := fnExactSplitLevelsRow.holds Try.pinned (OpenSpec.ofChange fnExactSplitLevelsWrong)

/-- 'laws.FnExactJoinShare': WHATEVER THE INPUT: true; the input reads as it did. -/
def fnExactJoinShareSpec : ChangeSpec := { name := "fnExactJoinShare", fn := fun _ => fun
  | [d1, d2, d3, d4, d5] => { results := [.lit (.bool true)], args := [d1, d2, d3, d4, d5] }
  | _ => none }
def fnExactJoinShareRow : OpenClaim := { program := "ytbhfjdlhhjeknaa", sum := "86fa17ec74980556e17ccf1799a2938b1e080688e67d24b479a28599c80b76be", func := "loop.example/g01403/laws.FnExactJoinShare", spec := "fnExactJoinShare", apart := false }
def FnExactJoinShareSaid : Prop := fnExactJoinShareRow.holds Try.pinned (OpenSpec.ofChange fnExactJoinShareSpec)

/-- ITS FALSE NEIGHBOUR: 'it returns false'. Refute it at one input. -/
def fnExactJoinShareWrong : ChangeSpec := { name := "fnExactJoinShare", fn := fun _ => fun
  | [d1, d2, d3, d4, d5] => { results := [.lit (.bool false)], args := [d1, d2, d3, d4, d5] }
  | _ => none }
def FnExactJoinShareWrongFalsely : Prop := fnExactJoinShareRow.holds Try.pinned (OpenSpec.ofChange fnExactJoinShareWrong)

/-- 'laws.FnClosed': WHATEVER THE INPUT: true; the input reads as it did. -/
def fnClosedSpec : ChangeSpec := { name := "fnClosed", fn := fun _ => fun
  | [d1, d2] => { results := [.lit (.bool true)], args := [d1, d2] }
  | _ => none }
def fnClosedRow : OpenClaim := { program := "ytbhfjdlhhjeknaa", sum := "86fa17ec74980556e17ccf1799a2938b1e080688e67d24b479a28599c80b76be", func := "loop.example/g01403/laws.FnClosed", spec := "fnClosed", inPlace := ["math.sqrt", "math.archCeil", "math.archFloor", "math.Float64bits", "math.Float64frombits", "math.archTrunc"], unfollowed := true, recurses := true, apart := false }
def FnClosedSaid : Prop := fnClosedRow.holds Try.pinned (OpenSpec.ofChange fnClosedSpec)

/-- ITS FALSE NEIGHBOUR: 'it returns false'. Refute it at one input. -/
def fnClosedWrong : ChangeSpec := { name := "fnClosed", fn := fun _ => fun
  | [d1, d2] => { results := [.lit (.bool false)], args := [d1, d2] }
  | _ => none }
def FnClosedWrongFalsely : Prop := fnClosedRow.holds Try.pinned (OpenSpec.ofChange fnClosedWrong)

/-- 'laws.FnExactShareRow': WHATEVER THE INPUT: true; the input reads as it did. -/
def fnExactShareRowSpec : ChangeSpec := { name := "fnExactShareRow", fn := fun _ => fun
  | [d1, d2, d3] => { results := [.lit (.bool true)], args := [d1, d2, d3] }
  | _ => none }
def fnExactShareRowRow : OpenClaim := { program := "ytbhfjdlhhjeknaa", sum := "86fa17ec74980556e17ccf1799a2938b1e080688e67d24b479a28599c80b76be", func := "loop.example/g01403/laws.FnExactShareRow", spec := "fnExactShareRow", apart := false }
def FnExactShareRowSaid : Prop := fnExactShareRowRow.holds Try.pinned (OpenSpec.ofChange fnExactShareRowSpec)

/-- ITS FALSE NEIGHBOUR: 'it returns false'. Refute it at one input. -/
def fnExactShareRowWrong : ChangeSpec := { name := "fnExactShareRow", fn := fun _ => fun
  | [d1, d2, d3] => { results := [.lit (.bool false)], args := [d1, d2, d3] }
  | _ => none }
def FnExactShareRowWrongFalsely : Prop := fnExactShareRowRow.holds Try.pinned (OpenSpec.ofChange fnExactShareRowWrong)

/-- 'laws.FnExactJoinRow': WHATEVER THE INPUT: true; the input reads as it did. -/
def fnExactJoinRowSpec : ChangeSpec := { name := "fnExactJoinRow", fn := fun _ => fun
  | [d1, d2, d3, d4] => { results := [.lit (.bool true)], args := [d1, d2, d3, d4] }
  | _ => none }
def fnExactJoinRowRow : OpenClaim := { program := "ytbhfjdlhhjeknaa", sum := "86fa17ec74980556e17ccf1799a2938b1e080688e67d24b479a28599c80b76be", func := "loop.example/g01403/laws.FnExactJoinRow", spec := "fnExactJoinRow", unfollowed := true, recurses := true, apart := false }
def FnExactJoinRowSaid : Prop := fnExactJoinRowRow.holds Try.pinned (OpenSpec.ofChange fnExactJoinRowSpec)

/-- ITS FALSE NEIGHBOUR: 'it returns false'. Refute it at one input. -/
def fnExactJoinRowWrong : ChangeSpec := { name := "fnExactJoinRow", fn := fun _ => fun
  | [d1, d2, d3, d4] => { results := [.lit (.bool false)], args := [d1, d2, d3, d4] }
  | _ => none }
def FnExactJoinRowWrongFalsely : Prop := fnExactJoinRowRow.holds Try.pinned (OpenSpec.ofChange fnExactJoinRowWrong)

/-- 'laws.FnExactSixShare': WHATEVER THE INPUT: true; the input reads as it did. -/
def fnExactSixShareSpec : ChangeSpec := { name := "fnExactSixShare", fn := fun _ => fun
  | [d1, d2, d3, d4, d5, d6] => { results := [.lit (.bool true)], args := [d1, d2, d3, d4, d5, d6] }
  | _ => none }
def fnExactSixShareRow : OpenClaim := { program := "ytbhfjdlhhjeknaa", sum := "86fa17ec74980556e17ccf1799a2938b1e080688e67d24b479a28599c80b76be", func := "loop.example/g01403/laws.FnExactSixShare", spec := "fnExactSixShare", unfollowed := true, recurses := true, apart := false }
def FnExactSixShareSaid : Prop := fnExactSixShareRow.holds Try.pinned (OpenSpec.ofChange fnExactSixShareSpec)

/-- ITS FALSE NEIGHBOUR: 'it returns false'. Refute it at one input. -/
def fnExactSixShareWrong : ChangeSpec := { name := "fnExactSixShare", fn := fun _ => fun
  | [d1, d2, d3, d4, d5, d6] => { results := [.lit (.bool false)], args := [d1, d2, d3, d4, d5, d6] }
  | _ => none }
def FnExactSixShareWrongFalsely : Prop := fnExactSixShareRow.holds Try.pinned (OpenSpec.ofChange fnExactSixShareWrong)

/-- 'laws.FnExactJoinNumber': WHATEVER THE INPUT: true; the input reads as it did. -/
def fnExactJoinNumberSpec : ChangeSpec := { name := "fnExactJoinNumber", fn := fun _ => fun
  | [d1, d2, d3, d4, d5] => { results := [.lit (.bool true)], args := [d1, d2, d3, d4, d5] }
  | _ => none }
def fnExactJoinNumberRow : OpenClaim := { program := "ytbhfjdlhhjeknaa", sum := "86fa17ec74980556e17ccf1799a2938b1e080688e67d24b479a28599c80b76be", func := "loop.example/g01403/laws.FnExactJoinNumber", spec := "fnExactJoinNumber", inPlace := ["math.sqrt"], apart := false }
def FnExactJoinNumberSaid : Prop := fnExactJoinNumberRow.holds Try.pinned (OpenSpec.ofChange fnExactJoinNumberSpec)

/-- ITS FALSE NEIGHBOUR: 'it returns false'. Refute it at one input. -/
def fnExactJoinNumberWrong : ChangeSpec := { name := "fnExactJoinNumber", fn := fun _ => fun
  | [d1, d2, d3, d4, d5] => { results := [.lit (.bool false)], args := [d1, d2, d3, d4, d5] }
  | _ => none }
def FnExactJoinNumberWrongFalsely : Prop := fnExactJoinNumberRow.holds Try.pinned (OpenSpec.ofChange fnExactJoinNumberWrong)

/-- 'laws.FnRules': WHATEVER THE INPUT: true; the input reads as it did. -/
def fnRulesSpec : ChangeSpec := { name := "fnRules", fn := fun _ => fun
  | [d1, d2] => { results := [.lit (.bool true)], args := [d1, d2] }
  | _ => none }
def fnRulesRow : OpenClaim := { program := "ytbhfjdlhhjeknaa", sum := "86fa17ec74980556e17ccf1799a2938b1e080688e67d24b479a28599c80b76be", func := "loop.example/g01403/laws.FnRules", spec := "fnRules", unfollowed := true, recurses := true, apart := false }
def FnRulesSaid : Prop := fnRulesRow.holds Try.pinned (OpenSpec.ofChange fnRulesSpec)

/-- ITS FALSE NEIGHBOUR: 'it returns false'. Refute it at one input. -/
def fnRulesWrong : ChangeSpec := { name := "fnRules", fn := fun _ => fun
  | [d1, d2] => { results := [.lit (.bool false)], args := [d1, d2] }
  | _ => none }
def FnRulesWrongFalsely : Prop := fnRulesRow.holds Try.pinned (OpenSpec.ofChange fnRulesWrong)

/-- 'laws.FnSixes': WHATEVER THE INPUT: true; the input reads as it did. -/
def fnSixesSpec : ChangeSpec := { name := "fnSixes", fn := fun _ => fun
  | [d1, d2] => { results := [.lit (.bool true)], args := [d1, d2] }
  | _ => none }
def fnSixesRow : OpenClaim := { program := "ytbhfjdlhhjeknaa", sum := "86fa17ec74980556e17ccf1799a2938b1e080688e67d24b479a28599c80b76be", func := "loop.example/g01403/laws.FnSixes", spec := "fnSixes", unfollowed := true, recurses := true, apart := false }
def FnSixesSaid : Prop := fnSixesRow.holds Try.pinned (OpenSpec.ofChange fnSixesSpec)

/-- ITS FALSE NEIGHBOUR: 'it returns false'. Refute it at one input. -/
def fnSixesWrong : ChangeSpec := { name := "fnSixes", fn := fun _ => fun
  | [d1, d2] => { results := [.lit (.bool false)], args := [d1, d2] }
  | _ => none }
def FnSixesWrongFalsely : Prop := fnSixesRow.holds Try.pinned (OpenSpec.ofChange fnSixesWrong)

/-- 'laws.FnJoins': WHATEVER THE INPUT: true; the input reads as it did. -/
def fnJoinsSpec : ChangeSpec := { name := "fnJoins", fn := fun _ => fun
  | [d1, d2] => { results := [.lit (.bool true)], args := [d1, d2] }
  | _ => none }
def fnJoinsRow : OpenClaim := { program := "ytbhfjdlhhjeknaa", sum := "86fa17ec74980556e17ccf1799a2938b1e080688e67d24b479a28599c80b76be", func := "loop.example/g01403/laws.FnJoins", spec := "fnJoins", inPlace := ["math.sqrt"], unfollowed := true, recurses := true, apart := false }
def FnJoinsSaid : Prop := fnJoinsRow.holds Try.pinned (OpenSpec.ofChange fnJoinsSpec)

/-- ITS FALSE NEIGHBOUR: 'it returns false'. Refute it at one input. -/
def fnJoinsWrong : ChangeSpec := { name := "fnJoins", fn := fun _ => fun
  | [d1, d2] => { results := [.lit (.bool false)], args := [d1, d2] }
  | _ => none }
def FnJoinsWrongFalsely : Prop := fnJoinsRow.holds Try.pinned (OpenSpec.ofChange fnJoinsWrong)

/- THE SECOND FORM. 'bulk': how many values and letters a reading holds, each counted each time it is reached (what is shared counts as often as it is met; a slice's spare places count too). A statement '..UptoSaid' is the law's where the arguments, and the package variables that the reading takes, are together of bulk at most 1048576: NARROWER than '..Said'. Prove '..Said' where nothing that the law and all that it calls make is longer than what came in: it says more and counts as full. Else prove '..UptoSaid'. A law counts once. -/
mutual
def uptoBulk {H : Type} : DataW H → Nat
  | .lit (.string bytes) => bytes.length + 1
  | .lit _ => 1
  | .nil => 1
  | .ptr d => uptoBulk d + 1
  | .slice elems spare => uptoBulkAll elems + uptoBulkAll spare + 1
  | .agg parts => uptoBulkAll parts + 1
  | .iface _ d => uptoBulk d + 1
  | .map entries => uptoBulkEntries entries + 1
  | .held _ => 1
def uptoBulkAll {H : Type} : List (DataW H) → Nat
  | [] => 0
  | d :: r => uptoBulk d + uptoBulkAll r
def uptoBulkEntries {H : Type} : List (Lit × DataW H) → Nat
  | [] => 0
  | x :: r => uptoBulkEntry x + uptoBulkEntries r
def uptoBulkEntry {H : Type} : Lit × DataW H → Nat
  | (.string bytes, d) => bytes.length + uptoBulk d + 1
  | (_, d) => uptoBulk d + 1
 end
def uptoSmall : (H : Type) → List (DataW H) → Bool := fun _ ds => decide (uptoBulkAll ds ≤ 1048576)
def OpenSpec.upto (s : _root_.Go.ChangeSpec) : _root_.Go.OpenSpec := { _root_.Go.OpenSpec.ofChange s with cond := some uptoSmall }

/-- 'laws.FnExactWaveNumbers', WHERE WHAT IT READS IS OF BULK AT MOST 1048576: true; the input reads as it did. -/
def fnExactWaveNumbersUptoRow : OpenClaim := { program := "ytbhfjdlhhjeknaa", sum := "86fa17ec74980556e17ccf1799a2938b1e080688e67d24b479a28599c80b76be", func := "loop.example/g01403/laws.FnExactWaveNumbers", spec := "fnExactWaveNumbers", inPlace := ["math.sqrt"], unfollowed := true, recurses := true, apart := false, narrowed := true }
def FnExactWaveNumbersUptoSaid : Prop := fnExactWaveNumbersUptoRow.holds Try.pinned (OpenSpec.upto fnExactWaveNumbersSpec)

/-- 'laws.FnExactSwingShare', WHERE WHAT IT READS IS OF BULK AT MOST 1048576: true; the input reads as it did. -/
def fnExactSwingShareUptoRow : OpenClaim := { program := "ytbhfjdlhhjeknaa", sum := "86fa17ec74980556e17ccf1799a2938b1e080688e67d24b479a28599c80b76be", func := "loop.example/g01403/laws.FnExactSwingShare", spec := "fnExactSwingShare", inPlace := ["math.sqrt", "math.Float32frombits", "math.Float64frombits", "math.Float64bits", "math.archTrunc"], unfollowed := true, recurses := true, apart := false, narrowed := true }
def FnExactSwingShareUptoSaid : Prop := fnExactSwingShareUptoRow.holds Try.pinned (OpenSpec.upto fnExactSwingShareSpec)

/-- 'laws.FnExactSplitLevels', WHERE WHAT IT READS IS OF BULK AT MOST 1048576: true; the input reads as it did. -/
def fnExactSplitLevelsUptoRow : OpenClaim := { program := "ytbhfjdlhhjeknaa", sum := "86fa17ec74980556e17ccf1799a2938b1e080688e67d24b479a28599c80b76be", func := "loop.example/g01403/laws.FnExactSplitLevels", spec := "fnExactSplitLevels", unfollowed := true, recurses := true, apart := false, narrowed := true }
def FnExactSplitLevelsUptoSaid : Prop := fnExactSplitLevelsUptoRow.holds Try.pinned (OpenSpec.upto fnExactSplitLevelsSpec)

/-- 'laws.FnExactJoinShare', WHERE WHAT IT READS IS OF BULK AT MOST 1048576: true; the input reads as it did. -/
def fnExactJoinShareUptoRow : OpenClaim := { program := "ytbhfjdlhhjeknaa", sum := "86fa17ec74980556e17ccf1799a2938b1e080688e67d24b479a28599c80b76be", func := "loop.example/g01403/laws.FnExactJoinShare", spec := "fnExactJoinShare", apart := false, narrowed := true }
def FnExactJoinShareUptoSaid : Prop := fnExactJoinShareUptoRow.holds Try.pinned (OpenSpec.upto fnExactJoinShareSpec)

/-- 'laws.FnClosed', WHERE WHAT IT READS IS OF BULK AT MOST 1048576: true; the input reads as it did. -/
def fnClosedUptoRow : OpenClaim := { program := "ytbhfjdlhhjeknaa", sum := "86fa17ec74980556e17ccf1799a2938b1e080688e67d24b479a28599c80b76be", func := "loop.example/g01403/laws.FnClosed", spec := "fnClosed", inPlace := ["math.sqrt", "math.archCeil", "math.archFloor", "math.Float64bits", "math.Float64frombits", "math.archTrunc"], unfollowed := true, recurses := true, apart := false, narrowed := true }
def FnClosedUptoSaid : Prop := fnClosedUptoRow.holds Try.pinned (OpenSpec.upto fnClosedSpec)

/-- 'laws.FnExactShareRow', WHERE WHAT IT READS IS OF BULK AT MOST 1048576: true; the input reads as it did. -/
def fnExactShareRowUptoRow : OpenClaim := { program := "ytbhfjdlhhjeknaa", sum := "86fa17ec74980556e17ccf1799a2938b1e080688e67d24b479a28599c80b76be", func := "loop.example/g01403/laws.FnExactShareRow", spec := "fnExactShareRow", apart := false, narrowed := true }
def FnExactShareRowUptoSaid : Prop := fnExactShareRowUptoRow.holds Try.pinned (OpenSpec.upto fnExactShareRowSpec)

/-- 'laws.FnExactJoinRow', WHERE WHAT IT READS IS OF BULK AT MOST 1048576: true; the input reads as it did. -/
def fnExactJoinRowUptoRow : OpenClaim := { program := "ytbhfjdlhhjeknaa", sum := "86fa17ec74980556e17ccf1799a2938b1e080688e67d24b479a28599c80b76be", func := "loop.example/g01403/laws.FnExactJoinRow", spec := "fnExactJoinRow", unfollowed := true, recurses := true, apart := false, narrowed := true }
def FnExactJoinRowUptoSaid : Prop := fnExactJoinRowUptoRow.holds Try.pinned (OpenSpec.upto fnExactJoinRowSpec)

/-- 'laws.FnExactSixShare', WHERE WHAT IT READS IS OF BULK AT MOST 1048576: true; the input reads as it did. -/
def fnExactSixShareUptoRow : OpenClaim := { program := "ytbhfjdlhhjeknaa", sum := "86fa17ec74980556e17ccf1799a2938b1e080688e67d24b479a28599c80b76be", func := "loop.example/g01403/laws.FnExactSixShare", spec := "fnExactSixShare", unfollowed := true, recurses := true, apart := false, narrowed := true }
def FnExactSixShareUptoSaid : Prop := fnExactSixShareUptoRow.holds Try.pinned (OpenSpec.upto fnExactSixShareSpec)

/-- 'laws.FnExactJoinNumber', WHERE WHAT IT READS IS OF BULK AT MOST 1048576: true; the input reads as it did. -/
def fnExactJoinNumberUptoRow : OpenClaim := { program := "ytbhfjdlhhjeknaa", sum := "86fa17ec74980556e17ccf1799a2938b1e080688e67d24b479a28599c80b76be", func := "loop.example/g01403/laws.FnExactJoinNumber", spec := "fnExactJoinNumber", inPlace := ["math.sqrt"], apart := false, narrowed := true }
def FnExactJoinNumberUptoSaid : Prop := fnExactJoinNumberUptoRow.holds Try.pinned (OpenSpec.upto fnExactJoinNumberSpec)

/-- 'laws.FnRules', WHERE WHAT IT READS IS OF BULK AT MOST 1048576: true; the input reads as it did. -/
def fnRulesUptoRow : OpenClaim := { program := "ytbhfjdlhhjeknaa", sum := "86fa17ec74980556e17ccf1799a2938b1e080688e67d24b479a28599c80b76be", func := "loop.example/g01403/laws.FnRules", spec := "fnRules", unfollowed := true, recurses := true, apart := false, narrowed := true }
def FnRulesUptoSaid : Prop := fnRulesUptoRow.holds Try.pinned (OpenSpec.upto fnRulesSpec)

/-- 'laws.FnSixes', WHERE WHAT IT READS IS OF BULK AT MOST 1048576: true; the input reads as it did. -/
def fnSixesUptoRow : OpenClaim := { program := "ytbhfjdlhhjeknaa", sum := "86fa17ec74980556e17ccf1799a2938b1e080688e67d24b479a28599c80b76be", func := "loop.example/g01403/laws.FnSixes", spec := "fnSixes", unfollowed := true, recurses := true, apart := false, narrowed := true }
def FnSixesUptoSaid : Prop := fnSixesUptoRow.holds Try.pinned (OpenSpec.upto fnSixesSpec)

/-- 'laws.FnJoins', WHERE WHAT IT READS IS OF BULK AT MOST 1048576: true; the input reads as it did. -/
def fnJoinsUptoRow : OpenClaim := { program := "ytbhfjdlhhjeknaa", sum := "86fa17ec74980556e17ccf1799a2938b1e080688e67d24b479a28599c80b76be", func := "loop.example/g01403/laws.FnJoins", spec := "fnJoins", inPlace := ["math.sqrt"], unfollowed := true, recurses := true, apart := false, narrowed := true }
def FnJoinsUptoSaid : Prop := fnJoinsUptoRow.holds Try.pinned (OpenSpec.upto fnJoinsSpec)

end Rows
end Go.Proofs.Ytbhfjdlhhjeknaa
