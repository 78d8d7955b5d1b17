/-
  No cell of these rows narrows 'for every input' (looked for: loops, veiled, ifaces, maps, wideKeys, modest, calm, conditions, laid).
  DERIVED. THE GIVEN ROWS OF THIS SEAT. 12 by the template 'for every input the law returns true; each argument reads behind the call as it read before'; 0 by the template 'total and deterministic' (their statements: YtcjliekgkilkoaaTotals.lean).
  GIVEN WITH THE SEED: the statements are not yours to turn. If you find one false, say at which input.
  Laid BY PROGRAM, IN A SANDBOX (cutbox-rows.mjs): the forced cells as the released guide's own fill.sh prints them over the translation d61261d53e5a0409… (all of the seat's roots in one cut). By AI agents, Wed Nov 11 2026. No macro, syntax, notation, axiom, sorry.
-/
import Derived.Test.YtcjliekgkilkoaaChecked
import GoSem.Claim
import GoSem.ClaimJoined
import GoSem.ClaimMapViews
import Derived.JoinedTies
import Derived.KernelRfl
namespace Go.Proofs.Ytcjliekgkilkoaa
/- THE CELL 'sum', in the pinned program and in every row, IS THE sha256 OF THE DUMP (.gsa) THAT YtcjliekgkilkoaaProg.lean LOADS. Nothing in Lean hashes anything: it is a label: what it is worth is what the hold of that sum in a sandbox is worth. -/
noncomputable def Try.pinned : Pinned := { name := "ytcjliekgkilkoaa", sum := "d61261d53e5a040957a459791626ab35fe797feacfe078edadc8021b971f1a8f", checked := Try.checked }
namespace Rows
def none {H : Type} : Left H := { results := [], args := [] }

/-- 'laws.FnExactValueAfter': WHATEVER THE INPUT: true; the input reads as it did. -/
def fnExactValueAfterSpec : ChangeSpec := { name := "fnExactValueAfter", fn := fun _ => fun
  | [d1, d2, d3] => { results := [.lit (.bool true)], args := [d1, d2, d3] }
  | _ => none }
def fnExactValueAfterRow : OpenClaim := { program := "ytcjliekgkilkoaa", sum := "d61261d53e5a040957a459791626ab35fe797feacfe078edadc8021b971f1a8f", func := "loop.example/g03208/laws.FnExactValueAfter", spec := "fnExactValueAfter", apart := false }
def FnExactValueAfterSaid : Prop := fnExactValueAfterRow.holds Try.pinned (OpenSpec.ofChange fnExactValueAfterSpec)

/-- ITS FALSE NEIGHBOUR: 'it returns false'. Refute it at one input. -/
def fnExactValueAfterWrong : ChangeSpec := { name := "fnExactValueAfter", fn := fun _ => fun
  | [d1, d2, d3] => { results := [.lit (.bool false)], args := [d1, d2, d3] }
  | _ => none }
def FnExactValueAfterWrongFalsely : Prop := fnExactValueAfterRow.holds Try.pinned (OpenSpec.ofChange fnExactValueAfterWrong)

/-- 'laws.FnExactStepListOk': WHATEVER THE INPUT: true; the input reads as it did. -/
def fnExactStepListOkSpec : ChangeSpec := { name := "fnExactStepListOk", fn := fun _ => fun
  | [d] => { results := [.lit (.bool true)], args := [d] }
  | _ => none }
def fnExactStepListOkRow : OpenClaim := { program := "ytcjliekgkilkoaa", sum := "d61261d53e5a040957a459791626ab35fe797feacfe078edadc8021b971f1a8f", func := "loop.example/g03208/laws.FnExactStepListOk", spec := "fnExactStepListOk", apart := false }
def FnExactStepListOkSaid : Prop := fnExactStepListOkRow.holds Try.pinned (OpenSpec.ofChange fnExactStepListOkSpec)

/-- ITS FALSE NEIGHBOUR: 'it returns false'. Refute it at one input. -/
def fnExactStepListOkWrong : ChangeSpec := { name := "fnExactStepListOk", fn := fun _ => fun
  | [d] => { results := [.lit (.bool false)], args := [d] }
  | _ => none }
def FnExactStepListOkWrongFalsely : Prop := fnExactStepListOkRow.holds Try.pinned (OpenSpec.ofChange fnExactStepListOkWrong)

/-- 'laws.FnExactPriceOf': WHATEVER THE INPUT: true; the input reads as it did. -/
def fnExactPriceOfSpec : ChangeSpec := { name := "fnExactPriceOf", fn := fun _ => fun
  | [d1, d2] => { results := [.lit (.bool true)], args := [d1, d2] }
  | _ => none }
def fnExactPriceOfRow : OpenClaim := { program := "ytcjliekgkilkoaa", sum := "d61261d53e5a040957a459791626ab35fe797feacfe078edadc8021b971f1a8f", func := "loop.example/g03208/laws.FnExactPriceOf", spec := "fnExactPriceOf", apart := false }
def FnExactPriceOfSaid : Prop := fnExactPriceOfRow.holds Try.pinned (OpenSpec.ofChange fnExactPriceOfSpec)

/-- ITS FALSE NEIGHBOUR: 'it returns false'. Refute it at one input. -/
def fnExactPriceOfWrong : ChangeSpec := { name := "fnExactPriceOf", fn := fun _ => fun
  | [d1, d2] => { results := [.lit (.bool false)], args := [d1, d2] }
  | _ => none }
def FnExactPriceOfWrongFalsely : Prop := fnExactPriceOfRow.holds Try.pinned (OpenSpec.ofChange fnExactPriceOfWrong)

/-- 'laws.FnExactIsHalving': WHATEVER THE INPUT: true; the input reads as it did. -/
def fnExactIsHalvingSpec : ChangeSpec := { name := "fnExactIsHalving", fn := fun _ => fun
  | [d1, d2, d3] => { results := [.lit (.bool true)], args := [d1, d2, d3] }
  | _ => none }
def fnExactIsHalvingRow : OpenClaim := { program := "ytcjliekgkilkoaa", sum := "d61261d53e5a040957a459791626ab35fe797feacfe078edadc8021b971f1a8f", func := "loop.example/g03208/laws.FnExactIsHalving", spec := "fnExactIsHalving", apart := false }
def FnExactIsHalvingSaid : Prop := fnExactIsHalvingRow.holds Try.pinned (OpenSpec.ofChange fnExactIsHalvingSpec)

/-- ITS FALSE NEIGHBOUR: 'it returns false'. Refute it at one input. -/
def fnExactIsHalvingWrong : ChangeSpec := { name := "fnExactIsHalving", fn := fun _ => fun
  | [d1, d2, d3] => { results := [.lit (.bool false)], args := [d1, d2, d3] }
  | _ => none }
def FnExactIsHalvingWrongFalsely : Prop := fnExactIsHalvingRow.holds Try.pinned (OpenSpec.ofChange fnExactIsHalvingWrong)

/-- 'laws.FnExactNewTable': WHATEVER THE INPUT: true; the input reads as it did. -/
def fnExactNewTableSpec : ChangeSpec := { name := "fnExactNewTable", fn := fun _ => fun
  | [] => { results := [.lit (.bool true)], args := [] }
  | _ => none }
def fnExactNewTableRow : OpenClaim := { program := "ytcjliekgkilkoaa", sum := "d61261d53e5a040957a459791626ab35fe797feacfe078edadc8021b971f1a8f", func := "loop.example/g03208/laws.FnExactNewTable", spec := "fnExactNewTable", apart := false }
def FnExactNewTableSaid : Prop := fnExactNewTableRow.holds Try.pinned (OpenSpec.ofChange fnExactNewTableSpec)

/-- ITS FALSE NEIGHBOUR: 'it returns false'. Refute it at one input. -/
def fnExactNewTableWrong : ChangeSpec := { name := "fnExactNewTable", fn := fun _ => fun
  | [] => { results := [.lit (.bool false)], args := [] }
  | _ => none }
def FnExactNewTableWrongFalsely : Prop := fnExactNewTableRow.holds Try.pinned (OpenSpec.ofChange fnExactNewTableWrong)

/-- 'laws.FnExactAreLoose': WHATEVER THE INPUT: true; the input reads as it did. -/
def fnExactAreLooseSpec : ChangeSpec := { name := "fnExactAreLoose", fn := fun _ => fun
  | [d1, d2] => { results := [.lit (.bool true)], args := [d1, d2] }
  | _ => none }
def fnExactAreLooseRow : OpenClaim := { program := "ytcjliekgkilkoaa", sum := "d61261d53e5a040957a459791626ab35fe797feacfe078edadc8021b971f1a8f", func := "loop.example/g03208/laws.FnExactAreLoose", spec := "fnExactAreLoose", apart := false }
def FnExactAreLooseSaid : Prop := fnExactAreLooseRow.holds Try.pinned (OpenSpec.ofChange fnExactAreLooseSpec)

/-- ITS FALSE NEIGHBOUR: 'it returns false'. Refute it at one input. -/
def fnExactAreLooseWrong : ChangeSpec := { name := "fnExactAreLoose", fn := fun _ => fun
  | [d1, d2] => { results := [.lit (.bool false)], args := [d1, d2] }
  | _ => none }
def FnExactAreLooseWrongFalsely : Prop := fnExactAreLooseRow.holds Try.pinned (OpenSpec.ofChange fnExactAreLooseWrong)

/-- 'laws.FnExactBestAmount': WHATEVER THE INPUT: true; the input reads as it did. -/
def fnExactBestAmountSpec : ChangeSpec := { name := "fnExactBestAmount", fn := fun _ => fun
  | [d1, d2] => { results := [.lit (.bool true)], args := [d1, d2] }
  | _ => none }
def fnExactBestAmountRow : OpenClaim := { program := "ytcjliekgkilkoaa", sum := "d61261d53e5a040957a459791626ab35fe797feacfe078edadc8021b971f1a8f", func := "loop.example/g03208/laws.FnExactBestAmount", spec := "fnExactBestAmount", apart := false }
def FnExactBestAmountSaid : Prop := fnExactBestAmountRow.holds Try.pinned (OpenSpec.ofChange fnExactBestAmountSpec)

/-- ITS FALSE NEIGHBOUR: 'it returns false'. Refute it at one input. -/
def fnExactBestAmountWrong : ChangeSpec := { name := "fnExactBestAmount", fn := fun _ => fun
  | [d1, d2] => { results := [.lit (.bool false)], args := [d1, d2] }
  | _ => none }
def FnExactBestAmountWrongFalsely : Prop := fnExactBestAmountRow.holds Try.pinned (OpenSpec.ofChange fnExactBestAmountWrong)

/-- 'laws.FnExactHalveBoth': WHATEVER THE INPUT: true; the input reads as it did. -/
def fnExactHalveBothSpec : ChangeSpec := { name := "fnExactHalveBoth", fn := fun _ => fun
  | [d1, d2] => { results := [.lit (.bool true)], args := [d1, d2] }
  | _ => none }
def fnExactHalveBothRow : OpenClaim := { program := "ytcjliekgkilkoaa", sum := "d61261d53e5a040957a459791626ab35fe797feacfe078edadc8021b971f1a8f", func := "loop.example/g03208/laws.FnExactHalveBoth", spec := "fnExactHalveBoth", apart := false }
def FnExactHalveBothSaid : Prop := fnExactHalveBothRow.holds Try.pinned (OpenSpec.ofChange fnExactHalveBothSpec)

/-- ITS FALSE NEIGHBOUR: 'it returns false'. Refute it at one input. -/
def fnExactHalveBothWrong : ChangeSpec := { name := "fnExactHalveBoth", fn := fun _ => fun
  | [d1, d2] => { results := [.lit (.bool false)], args := [d1, d2] }
  | _ => none }
def FnExactHalveBothWrongFalsely : Prop := fnExactHalveBothRow.holds Try.pinned (OpenSpec.ofChange fnExactHalveBothWrong)

/-- 'laws.FnExactCountsOf': WHATEVER THE INPUT: true; the input reads as it did. -/
def fnExactCountsOfSpec : ChangeSpec := { name := "fnExactCountsOf", fn := fun _ => fun
  | [d1, d2, d3] => { results := [.lit (.bool true)], args := [d1, d2, d3] }
  | _ => none }
def fnExactCountsOfRow : OpenClaim := { program := "ytcjliekgkilkoaa", sum := "d61261d53e5a040957a459791626ab35fe797feacfe078edadc8021b971f1a8f", func := "loop.example/g03208/laws.FnExactCountsOf", spec := "fnExactCountsOf", apart := false }
def FnExactCountsOfSaid : Prop := fnExactCountsOfRow.holds Try.pinned (OpenSpec.ofChange fnExactCountsOfSpec)

/-- ITS FALSE NEIGHBOUR: 'it returns false'. Refute it at one input. -/
def fnExactCountsOfWrong : ChangeSpec := { name := "fnExactCountsOf", fn := fun _ => fun
  | [d1, d2, d3] => { results := [.lit (.bool false)], args := [d1, d2, d3] }
  | _ => none }
def FnExactCountsOfWrongFalsely : Prop := fnExactCountsOfRow.holds Try.pinned (OpenSpec.ofChange fnExactCountsOfWrong)

/-- 'laws.FnExactCheapestAt': WHATEVER THE INPUT: true; the input reads as it did. -/
def fnExactCheapestAtSpec : ChangeSpec := { name := "fnExactCheapestAt", fn := fun _ => fun
  | [d1, d2] => { results := [.lit (.bool true)], args := [d1, d2] }
  | _ => none }
def fnExactCheapestAtRow : OpenClaim := { program := "ytcjliekgkilkoaa", sum := "d61261d53e5a040957a459791626ab35fe797feacfe078edadc8021b971f1a8f", func := "loop.example/g03208/laws.FnExactCheapestAt", spec := "fnExactCheapestAt", apart := false }
def FnExactCheapestAtSaid : Prop := fnExactCheapestAtRow.holds Try.pinned (OpenSpec.ofChange fnExactCheapestAtSpec)

/-- ITS FALSE NEIGHBOUR: 'it returns false'. Refute it at one input. -/
def fnExactCheapestAtWrong : ChangeSpec := { name := "fnExactCheapestAt", fn := fun _ => fun
  | [d1, d2] => { results := [.lit (.bool false)], args := [d1, d2] }
  | _ => none }
def FnExactCheapestAtWrongFalsely : Prop := fnExactCheapestAtRow.holds Try.pinned (OpenSpec.ofChange fnExactCheapestAtWrong)

/-- 'laws.FnExactHalvingPairs': WHATEVER THE INPUT: true; the input reads as it did. -/
def fnExactHalvingPairsSpec : ChangeSpec := { name := "fnExactHalvingPairs", fn := fun _ => fun
  | [d] => { results := [.lit (.bool true)], args := [d] }
  | _ => none }
def fnExactHalvingPairsRow : OpenClaim := { program := "ytcjliekgkilkoaa", sum := "d61261d53e5a040957a459791626ab35fe797feacfe078edadc8021b971f1a8f", func := "loop.example/g03208/laws.FnExactHalvingPairs", spec := "fnExactHalvingPairs", apart := false }
def FnExactHalvingPairsSaid : Prop := fnExactHalvingPairsRow.holds Try.pinned (OpenSpec.ofChange fnExactHalvingPairsSpec)

/-- ITS FALSE NEIGHBOUR: 'it returns false'. Refute it at one input. -/
def fnExactHalvingPairsWrong : ChangeSpec := { name := "fnExactHalvingPairs", fn := fun _ => fun
  | [d] => { results := [.lit (.bool false)], args := [d] }
  | _ => none }
def FnExactHalvingPairsWrongFalsely : Prop := fnExactHalvingPairsRow.holds Try.pinned (OpenSpec.ofChange fnExactHalvingPairsWrong)

/-- 'laws.FnExactCutPolygon': WHATEVER THE INPUT: true; the input reads as it did. -/
def fnExactCutPolygonSpec : ChangeSpec := { name := "fnExactCutPolygon", fn := fun _ => fun
  | [d1, d2, d3] => { results := [.lit (.bool true)], args := [d1, d2, d3] }
  | _ => none }
def fnExactCutPolygonRow : OpenClaim := { program := "ytcjliekgkilkoaa", sum := "d61261d53e5a040957a459791626ab35fe797feacfe078edadc8021b971f1a8f", func := "loop.example/g03208/laws.FnExactCutPolygon", spec := "fnExactCutPolygon", unfollowed := true, recurses := true, apart := false }
def FnExactCutPolygonSaid : Prop := fnExactCutPolygonRow.holds Try.pinned (OpenSpec.ofChange fnExactCutPolygonSpec)

/-- ITS FALSE NEIGHBOUR: 'it returns false'. Refute it at one input. -/
def fnExactCutPolygonWrong : ChangeSpec := { name := "fnExactCutPolygon", fn := fun _ => fun
  | [d1, d2, d3] => { results := [.lit (.bool false)], args := [d1, d2, d3] }
  | _ => none }
def FnExactCutPolygonWrongFalsely : Prop := fnExactCutPolygonRow.holds Try.pinned (OpenSpec.ofChange fnExactCutPolygonWrong)

/- THE SECOND FORM. 'bulk': how many values and letters a reading holds, each counted each time it is reached (what is shared counts as often as it is met; a slice's spare places count too). A statement '..UptoSaid' is the law's where the arguments, and the package variables that the reading takes, are together of bulk at most 1048576: NARROWER than '..Said'. Prove '..Said' where nothing that the law and all that it calls make is longer than what came in: it says more and counts as full. Else prove '..UptoSaid'. A law counts once. -/
mutual
def uptoBulk {H : Type} : DataW H → Nat
  | .lit (.string bytes) => bytes.length + 1
  | .lit _ => 1
  | .nil => 1
  | .ptr d => uptoBulk d + 1
  | .slice elems spare => uptoBulkAll elems + uptoBulkAll spare + 1
  | .agg parts => uptoBulkAll parts + 1
  | .iface _ d => uptoBulk d + 1
  | .map entries => uptoBulkEntries entries + 1
  | .held _ => 1
def uptoBulkAll {H : Type} : List (DataW H) → Nat
  | [] => 0
  | d :: r => uptoBulk d + uptoBulkAll r
def uptoBulkEntries {H : Type} : List (Lit × DataW H) → Nat
  | [] => 0
  | x :: r => uptoBulkEntry x + uptoBulkEntries r
def uptoBulkEntry {H : Type} : Lit × DataW H → Nat
  | (.string bytes, d) => bytes.length + uptoBulk d + 1
  | (_, d) => uptoBulk d + 1
 end
def uptoSmall : (H : Type) → List (DataW H) → Bool := fun _ ds => decide (uptoBulkAll ds ≤ 1048576)
def OpenSpec.upto (s : _root_.Go.ChangeSpec) : _root_.Go.OpenSpec := { _root_.Go.OpenSpec.ofChange s with cond := some uptoSmall }

/-- 'laws.FnExactValueAfter', WHERE WHAT IT READS IS OF BULK AT MOST 1048576: true; the input reads as it did. -/
def fnExactValueAfterUptoRow : OpenClaim := { program := "ytcjliekgkilkoaa", sum := "d61261d53e5a040957a459791626ab35fe797feacfe078edadc8021b971f1a8f", func := "loop.example/g03208/laws.FnExactValueAfter", spec := "fnExactValueAfter", apart := false, narrowed := true }
def FnExactValueAfterUptoSaid : Prop := fnExactValueAfterUptoRow.holds Try.pinned (OpenSpec.upto fnExactValueAfterSpec)

/-- 'laws.FnExactStepListOk', WHERE WHAT IT READS IS OF BULK AT MOST 1048576: true; the input reads as it did. -/
def fnExactStepListOkUptoRow : OpenClaim := { program := "ytcjliekgkilkoaa", sum := "d61261d53e5a040957a459791626ab35fe797feacfe078edadc8021b971f1a8f", func := "loop.example/g03208/laws.FnExactStepListOk", spec := "fnExactStepListOk", apart := false, narrowed := true }
def FnExactStepListOkUptoSaid : Prop := fnExactStepListOkUptoRow.holds Try.pinned (OpenSpec.upto fnExactStepListOkSpec)

/-- 'laws.FnExactPriceOf', WHERE WHAT IT READS IS OF BULK AT MOST 1048576: true; the input reads as it did. -/
def fnExactPriceOfUptoRow : OpenClaim := { program := "ytcjliekgkilkoaa", sum := "d61261d53e5a040957a459791626ab35fe797feacfe078edadc8021b971f1a8f", func := "loop.example/g03208/laws.FnExactPriceOf", spec := "fnExactPriceOf", apart := false, narrowed := true }
def FnExactPriceOfUptoSaid : Prop := fnExactPriceOfUptoRow.holds Try.pinned (OpenSpec.upto fnExactPriceOfSpec)

/-- 'laws.FnExactIsHalving', WHERE WHAT IT READS IS OF BULK AT MOST 1048576: true; the input reads as it did. -/
def fnExactIsHalvingUptoRow : OpenClaim := { program := "ytcjliekgkilkoaa", sum := "d61261d53e5a040957a459791626ab35fe797feacfe078edadc8021b971f1a8f", func := "loop.example/g03208/laws.FnExactIsHalving", spec := "fnExactIsHalving", apart := false, narrowed := true }
def FnExactIsHalvingUptoSaid : Prop := fnExactIsHalvingUptoRow.holds Try.pinned (OpenSpec.upto fnExactIsHalvingSpec)

/-- 'laws.FnExactNewTable', WHERE WHAT IT READS IS OF BULK AT MOST 1048576: true; the input reads as it did. -/
def fnExactNewTableUptoRow : OpenClaim := { program := "ytcjliekgkilkoaa", sum := "d61261d53e5a040957a459791626ab35fe797feacfe078edadc8021b971f1a8f", func := "loop.example/g03208/laws.FnExactNewTable", spec := "fnExactNewTable", apart := false, narrowed := true }
def FnExactNewTableUptoSaid : Prop := fnExactNewTableUptoRow.holds Try.pinned (OpenSpec.upto fnExactNewTableSpec)

/-- 'laws.FnExactAreLoose', WHERE WHAT IT READS IS OF BULK AT MOST 1048576: true; the input reads as it did. -/
def fnExactAreLooseUptoRow : OpenClaim := { program := "ytcjliekgkilkoaa", sum := "d61261d53e5a040957a459791626ab35fe797feacfe078edadc8021b971f1a8f", func := "loop.example/g03208/laws.FnExactAreLoose", spec := "fnExactAreLoose", apart := false, narrowed := true }
def FnExactAreLooseUptoSaid : Prop := fnExactAreLooseUptoRow.holds Try.pinned (OpenSpec.upto fnExactAreLooseSpec)

/-- 'laws.FnExactBestAmount', WHERE WHAT IT READS IS OF BULK AT MOST 1048576: true; the input reads as it did. -/
def fnExactBestAmountUptoRow : OpenClaim := { program := "ytcjliekgkilkoaa", sum := "d61261d53e5a040957a459791626ab35fe797feacfe078edadc8021b971f1a8f", func := "loop.example/g03208/laws.FnExactBestAmount", spec := "fnExactBestAmount", apart := false, narrowed := true }
def FnExactBestAmountUptoSaid : Prop := fnExactBestAmountUptoRow.holds Try.pinned (OpenSpec.upto fnExactBestAmountSpec)

/-- 'laws.FnExactHalveBoth', WHERE WHAT IT READS IS OF BULK AT MOST 1048576: true; the input reads as it did. -/
def fnExactHalveBothUptoRow : OpenClaim := { program := "ytcjliekgkilkoaa", sum := "d61261d53e5a040957a459791626ab35fe797feacfe078edadc8021b971f1a8f", func := "loop.example/g03208/laws.FnExactHalveBoth", spec := "fnExactHalveBoth", apart := false, narrowed := true }
def FnExactHalveBothUptoSaid : Prop := fnExactHalveBothUptoRow.holds Try.pinned (OpenSpec.upto fnExactHalveBothSpec)

/-- 'laws.FnExactCountsOf', WHERE WHAT IT READS IS OF BULK AT MOST 1048576: true; the input reads as it did. -/
def fnExactCountsOfUptoRow : OpenClaim := { program := "ytcjliekgkilkoaa", sum := "d61261d53e5a040957a459791626ab35fe797feacfe078edadc8021b971f1a8f", func := "loop.example/g03208/laws.FnExactCountsOf", spec := "fnExactCountsOf", apart := false, narrowed := true }
def FnExactCountsOfUptoSaid : Prop := fnExactCountsOfUptoRow.holds Try.pinned (OpenSpec.upto fnExactCountsOfSpec)

/-- 'laws.FnExactCheapestAt', WHERE WHAT IT READS IS OF BULK AT MOST 1048576: true; the input reads as it did. -/
def fnExactCheapestAtUptoRow : OpenClaim := { program := "ytcjliekgkilkoaa", sum := "d61261d53e5a040957a459791626ab35fe797feacfe078edadc8021b971f1a8f", func := "loop.example/g03208/laws.FnExactCheapestAt", spec := "fnExactCheapestAt", apart := false, narrowed := true }
def FnExactCheapestAtUptoSaid : Prop := fnExactCheapestAtUptoRow.holds Try.pinned (OpenSpec.upto fnExactCheapestAtSpec)

/-- 'laws.FnExactHalvingPairs', WHERE WHAT IT READS IS OF BULK AT MOST 1048576: true; the input reads as it did. -/
def fnExactHalvingPairsUptoRow : OpenClaim := { program := "ytcjliekgkilkoaa", sum := "d61261d53e5a040957a459791626ab35fe797feacfe078edadc8021b971f1a8f", func := "loop.example/g03208/laws.FnExactHalvingPairs", spec := "fnExactHalvingPairs", apart := false, narrowed := true }
def FnExactHalvingPairsUptoSaid : Prop := fnExactHalvingPairsUptoRow.holds Try.pinned (OpenSpec.upto fnExactHalvingPairsSpec)

/-- 'laws.FnExactCutPolygon', WHERE WHAT IT READS IS OF BULK AT MOST 1048576: true; the input reads as it did. -/
def fnExactCutPolygonUptoRow : OpenClaim := { program := "ytcjliekgkilkoaa", sum := "d61261d53e5a040957a459791626ab35fe797feacfe078edadc8021b971f1a8f", func := "loop.example/g03208/laws.FnExactCutPolygon", spec := "fnExactCutPolygon", unfollowed := true, recurses := true, apart := false, narrowed := true }
def FnExactCutPolygonUptoSaid : Prop := fnExactCutPolygonUptoRow.holds Try.pinned (OpenSpec.upto fnExactCutPolygonSpec)

end Rows
end Go.Proofs.Ytcjliekgkilkoaa
