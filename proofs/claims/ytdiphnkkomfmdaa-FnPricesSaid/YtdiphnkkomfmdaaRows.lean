/-
  No cell of these rows narrows 'for every input' (looked for: loops, veiled, ifaces, maps, wideKeys, modest, calm, conditions, laid).
  DERIVED. THE GIVEN ROWS OF THIS SEAT. 8 by the template 'for every input the law returns true; each argument reads behind the call as it read before'; 0 by the template 'total and deterministic' (their statements: YtdiphnkkomfmdaaTotals.lean).
  GIVEN WITH THE SEED: the statements are not yours to turn. If you find one false, say at which input.
  Laid BY PROGRAM, IN A SANDBOX (cutbox-rows.mjs): the forced cells as the released guide's own fill.sh prints them over the translation bbfaf71c3afa9452… (all of the seat's roots in one cut). By AI agents, Wed Nov 11 2026. No macro, syntax, notation, axiom, sorry.
-/
import Derived.Test.YtdiphnkkomfmdaaChecked
import GoSem.Claim
import GoSem.ClaimJoined
import GoSem.ClaimMapViews
import Derived.JoinedTies
import Derived.KernelRfl
namespace Go.Proofs.Ytdiphnkkomfmdaa
/- THE CELL 'sum', in the pinned program and in every row, IS THE sha256 OF THE DUMP (.gsa) THAT YtdiphnkkomfmdaaProg.lean LOADS. Nothing in Lean hashes anything: it is a label: what it is worth is what the hold of that sum in a sandbox is worth. -/
noncomputable def Try.pinned : Pinned := { name := "ytdiphnkkomfmdaa", sum := "bbfaf71c3afa94520338b57b26a226fb9fe83bf27d3b0159a89b66b94845eb67", checked := Try.checked }
namespace Rows
def none {H : Type} : Left H := { results := [], args := [] }

/-- 'laws.FnExactAreLoose': WHATEVER THE INPUT: true; the input reads as it did. -/
def fnExactAreLooseSpec : ChangeSpec := { name := "fnExactAreLoose", fn := fun _ => fun
  | [d1, d2] => { results := [.lit (.bool true)], args := [d1, d2] }
  | _ => none }
def fnExactAreLooseRow : OpenClaim := { program := "ytdiphnkkomfmdaa", sum := "bbfaf71c3afa94520338b57b26a226fb9fe83bf27d3b0159a89b66b94845eb67", func := "loop.example/g03208/laws.FnExactAreLoose", spec := "fnExactAreLoose", apart := false }
def FnExactAreLooseSaid : Prop := fnExactAreLooseRow.holds Try.pinned (OpenSpec.ofChange fnExactAreLooseSpec)

/-- ITS FALSE NEIGHBOUR: 'it returns false'. Refute it at one input. -/
def fnExactAreLooseWrong : ChangeSpec := { name := "fnExactAreLoose", fn := fun _ => fun
  | [d1, d2] => { results := [.lit (.bool false)], args := [d1, d2] }
  | _ => none }
def FnExactAreLooseWrongFalsely : Prop := fnExactAreLooseRow.holds Try.pinned (OpenSpec.ofChange fnExactAreLooseWrong)

/-- 'laws.FnExactTotalsOf': WHATEVER THE INPUT: true; the input reads as it did. -/
def fnExactTotalsOfSpec : ChangeSpec := { name := "fnExactTotalsOf", fn := fun _ => fun
  | [d] => { results := [.lit (.bool true)], args := [d] }
  | _ => none }
def fnExactTotalsOfRow : OpenClaim := { program := "ytdiphnkkomfmdaa", sum := "bbfaf71c3afa94520338b57b26a226fb9fe83bf27d3b0159a89b66b94845eb67", func := "loop.example/g03208/laws.FnExactTotalsOf", spec := "fnExactTotalsOf", apart := false }
def FnExactTotalsOfSaid : Prop := fnExactTotalsOfRow.holds Try.pinned (OpenSpec.ofChange fnExactTotalsOfSpec)

/-- ITS FALSE NEIGHBOUR: 'it returns false'. Refute it at one input. -/
def fnExactTotalsOfWrong : ChangeSpec := { name := "fnExactTotalsOf", fn := fun _ => fun
  | [d] => { results := [.lit (.bool false)], args := [d] }
  | _ => none }
def FnExactTotalsOfWrongFalsely : Prop := fnExactTotalsOfRow.holds Try.pinned (OpenSpec.ofChange fnExactTotalsOfWrong)

/-- 'laws.FnExactShareOut': WHATEVER THE INPUT: true; the input reads as it did. -/
def fnExactShareOutSpec : ChangeSpec := { name := "fnExactShareOut", fn := fun _ => fun
  | [d1, d2] => { results := [.lit (.bool true)], args := [d1, d2] }
  | _ => none }
def fnExactShareOutRow : OpenClaim := { program := "ytdiphnkkomfmdaa", sum := "bbfaf71c3afa94520338b57b26a226fb9fe83bf27d3b0159a89b66b94845eb67", func := "loop.example/g03208/laws.FnExactShareOut", spec := "fnExactShareOut", unfollowed := true, recurses := true, apart := false }
def FnExactShareOutSaid : Prop := fnExactShareOutRow.holds Try.pinned (OpenSpec.ofChange fnExactShareOutSpec)

/-- ITS FALSE NEIGHBOUR: 'it returns false'. Refute it at one input. -/
def fnExactShareOutWrong : ChangeSpec := { name := "fnExactShareOut", fn := fun _ => fun
  | [d1, d2] => { results := [.lit (.bool false)], args := [d1, d2] }
  | _ => none }
def FnExactShareOutWrongFalsely : Prop := fnExactShareOutRow.holds Try.pinned (OpenSpec.ofChange fnExactShareOutWrong)

/-- 'laws.FnPrices': WHATEVER THE INPUT: true; the input reads as it did. -/
def fnPricesSpec : ChangeSpec := { name := "fnPrices", fn := fun _ => fun
  | [d] => { results := [.lit (.bool true)], args := [d] }
  | _ => none }
def fnPricesRow : OpenClaim := { program := "ytdiphnkkomfmdaa", sum := "bbfaf71c3afa94520338b57b26a226fb9fe83bf27d3b0159a89b66b94845eb67", func := "loop.example/g03208/laws.FnPrices", spec := "fnPrices", unfollowed := true, recurses := true, apart := false }
def FnPricesSaid : Prop := fnPricesRow.holds Try.pinned (OpenSpec.ofChange fnPricesSpec)

/-- ITS FALSE NEIGHBOUR: 'it returns false'. Refute it at one input. -/
def fnPricesWrong : ChangeSpec := { name := "fnPrices", fn := fun _ => fun
  | [d] => { results := [.lit (.bool false)], args := [d] }
  | _ => none }
def FnPricesWrongFalsely : Prop := fnPricesRow.holds Try.pinned (OpenSpec.ofChange fnPricesWrong)

/-- 'laws.FnExactBestCut': WHATEVER THE INPUT: true; the input reads as it did. -/
def fnExactBestCutSpec : ChangeSpec := { name := "fnExactBestCut", fn := fun _ => fun
  | [d] => { results := [.lit (.bool true)], args := [d] }
  | _ => none }
def fnExactBestCutRow : OpenClaim := { program := "ytdiphnkkomfmdaa", sum := "bbfaf71c3afa94520338b57b26a226fb9fe83bf27d3b0159a89b66b94845eb67", func := "loop.example/g03208/laws.FnExactBestCut", spec := "fnExactBestCut", unfollowed := true, recurses := true, apart := false }
def FnExactBestCutSaid : Prop := fnExactBestCutRow.holds Try.pinned (OpenSpec.ofChange fnExactBestCutSpec)

/-- ITS FALSE NEIGHBOUR: 'it returns false'. Refute it at one input. -/
def fnExactBestCutWrong : ChangeSpec := { name := "fnExactBestCut", fn := fun _ => fun
  | [d] => { results := [.lit (.bool false)], args := [d] }
  | _ => none }
def FnExactBestCutWrongFalsely : Prop := fnExactBestCutRow.holds Try.pinned (OpenSpec.ofChange fnExactBestCutWrong)

/-- 'laws.FnHalving': WHATEVER THE INPUT: true; the input reads as it did. -/
def fnHalvingSpec : ChangeSpec := { name := "fnHalving", fn := fun _ => fun
  | [d] => { results := [.lit (.bool true)], args := [d] }
  | _ => none }
def fnHalvingRow : OpenClaim := { program := "ytdiphnkkomfmdaa", sum := "bbfaf71c3afa94520338b57b26a226fb9fe83bf27d3b0159a89b66b94845eb67", func := "loop.example/g03208/laws.FnHalving", spec := "fnHalving", unfollowed := true, recurses := true, apart := false }
def FnHalvingSaid : Prop := fnHalvingRow.holds Try.pinned (OpenSpec.ofChange fnHalvingSpec)

/-- ITS FALSE NEIGHBOUR: 'it returns false'. Refute it at one input. -/
def fnHalvingWrong : ChangeSpec := { name := "fnHalving", fn := fun _ => fun
  | [d] => { results := [.lit (.bool false)], args := [d] }
  | _ => none }
def FnHalvingWrongFalsely : Prop := fnHalvingRow.holds Try.pinned (OpenSpec.ofChange fnHalvingWrong)

/-- 'laws.FnExactSheetsAfter': WHATEVER THE INPUT: true; the input reads as it did. -/
def fnExactSheetsAfterSpec : ChangeSpec := { name := "fnExactSheetsAfter", fn := fun _ => fun
  | [d] => { results := [.lit (.bool true)], args := [d] }
  | _ => none }
def fnExactSheetsAfterRow : OpenClaim := { program := "ytdiphnkkomfmdaa", sum := "bbfaf71c3afa94520338b57b26a226fb9fe83bf27d3b0159a89b66b94845eb67", func := "loop.example/g03208/laws.FnExactSheetsAfter", spec := "fnExactSheetsAfter", unfollowed := true, recurses := true, apart := false }
def FnExactSheetsAfterSaid : Prop := fnExactSheetsAfterRow.holds Try.pinned (OpenSpec.ofChange fnExactSheetsAfterSpec)

/-- ITS FALSE NEIGHBOUR: 'it returns false'. Refute it at one input. -/
def fnExactSheetsAfterWrong : ChangeSpec := { name := "fnExactSheetsAfter", fn := fun _ => fun
  | [d] => { results := [.lit (.bool false)], args := [d] }
  | _ => none }
def FnExactSheetsAfterWrongFalsely : Prop := fnExactSheetsAfterRow.holds Try.pinned (OpenSpec.ofChange fnExactSheetsAfterWrong)

/-- 'laws.FnLedger': WHATEVER THE INPUT: true; the input reads as it did. -/
def fnLedgerSpec : ChangeSpec := { name := "fnLedger", fn := fun _ => fun
  | [d] => { results := [.lit (.bool true)], args := [d] }
  | _ => none }
def fnLedgerRow : OpenClaim := { program := "ytdiphnkkomfmdaa", sum := "bbfaf71c3afa94520338b57b26a226fb9fe83bf27d3b0159a89b66b94845eb67", func := "loop.example/g03208/laws.FnLedger", spec := "fnLedger", unfollowed := true, recurses := true, apart := false }
def FnLedgerSaid : Prop := fnLedgerRow.holds Try.pinned (OpenSpec.ofChange fnLedgerSpec)

/-- ITS FALSE NEIGHBOUR: 'it returns false'. Refute it at one input. -/
def fnLedgerWrong : ChangeSpec := { name := "fnLedger", fn := fun _ => fun
  | [d] => { results := [.lit (.bool false)], args := [d] }
  | _ => none }
def FnLedgerWrongFalsely : Prop := fnLedgerRow.holds Try.pinned (OpenSpec.ofChange fnLedgerWrong)

/- THE SECOND FORM. 'bulk': how many values and letters a reading holds, each counted each time it is reached (what is shared counts as often as it is met; a slice's spare places count too). A statement '..UptoSaid' is the law's where the arguments, and the package variables that the reading takes, are together of bulk at most 1048576: NARROWER than '..Said'. Prove '..Said' where nothing that the law and all that it calls make is longer than what came in: it says more and counts as full. Else prove '..UptoSaid'. A law counts once. -/
mutual
def uptoBulk {H : Type} : DataW H → Nat
  | .lit (.string bytes) => bytes.length + 1
  | .lit _ => 1
  | .nil => 1
  | .ptr d => uptoBulk d + 1
  | .slice elems spare => uptoBulkAll elems + uptoBulkAll spare + 1
  | .agg parts => uptoBulkAll parts + 1
  | .iface _ d => uptoBulk d + 1
  | .map entries => uptoBulkEntries entries + 1
  | .held _ => 1
def uptoBulkAll {H : Type} : List (DataW H) → Nat
  | [] => 0
  | d :: r => uptoBulk d + uptoBulkAll r
def uptoBulkEntries {H : Type} : List (Lit × DataW H) → Nat
  | [] => 0
  | x :: r => uptoBulkEntry x + uptoBulkEntries r
def uptoBulkEntry {H : Type} : Lit × DataW H → Nat
  | (.string bytes, d) => bytes.length + uptoBulk d + 1
  | (_, d) => uptoBulk d + 1
 end
def uptoSmall : (H : Type) → List (DataW H) → Bool := fun _ ds => decide (uptoBulkAll ds ≤ 1048576)
def OpenSpec.upto (s : _root_.Go.ChangeSpec) : _root_.Go.OpenSpec := { _root_.Go.OpenSpec.ofChange s with cond := some uptoSmall }

/-- 'laws.FnExactAreLoose', WHERE WHAT IT READS IS OF BULK AT MOST 1048576: true; the input reads as it did. -/
def fnExactAreLooseUptoRow : OpenClaim := { program := "ytdiphnkkomfmdaa", sum := "bbfaf71c3afa94520338b57b26a226fb9fe83bf27d3b0159a89b66b94845eb67", func := "loop.example/g03208/laws.FnExactAreLoose", spec := "fnExactAreLoose", apart := false, narrowed := true }
def FnExactAreLooseUptoSaid : Prop := fnExactAreLooseUptoRow.holds Try.pinned (OpenSpec.upto fnExactAreLooseSpec)

/-- 'laws.FnExactTotalsOf', WHERE WHAT IT READS IS OF BULK AT MOST 1048576: true; the input reads as it did. -/
def fnExactTotalsOfUptoRow : OpenClaim := { program := "ytdiphnkkomfmdaa", sum := "bbfaf71c3afa94520338b57b26a226fb9fe83bf27d3b0159a89b66b94845eb67", func := "loop.example/g03208/laws.FnExactTotalsOf", spec := "fnExactTotalsOf", apart := false, narrowed := true }
def FnExactTotalsOfUptoSaid : Prop := fnExactTotalsOfUptoRow.holds Try.pinned (OpenSpec.upto fnExactTotalsOfSpec)

/-- 'laws.FnExactShareOut', WHERE WHAT IT READS IS OF BULK AT MOST 1048576: true; the input reads as it did. -/
def fnExactShareOutUptoRow : OpenClaim := { program := "ytdiphnkkomfmdaa", sum := "bbfaf71c3afa94520338b57b26a226fb9fe83bf27d3b0159a89b66b94845eb67", func := "loop.example/g03208/laws.FnExactShareOut", spec := "fnExactShareOut", unfollowed := true, recurses := true, apart := false, narrowed := true }
def FnExactShareOutUptoSaid : Prop := fnExactShareOutUptoRow.holds Try.pinned (OpenSpec.upto fnExactShareOutSpec)

/-- 'laws.FnPrices', WHERE WHAT IT READS IS OF BULK AT MOST 1048576: true; the input reads as it did. -/
def fnPricesUptoRow : OpenClaim := { program := "ytdiphnkkomfmdaa", sum := "bbfaf71c3afa94520338b57b26a226fb9fe83bf27d3b0159a89b66b94845eb67", func := "loop.example/g03208/laws.FnPrices", spec := "fnPrices", unfollowed := true, recurses := true, apart := false, narrowed := true }
def FnPricesUptoSaid : Prop := fnPricesUptoRow.holds Try.pinned (OpenSpec.upto fnPricesSpec)

/-- 'laws.FnExactBestCut', WHERE WHAT IT READS IS OF BULK AT MOST 1048576: true; the input reads as it did. -/
def fnExactBestCutUptoRow : OpenClaim := { program := "ytdiphnkkomfmdaa", sum := "bbfaf71c3afa94520338b57b26a226fb9fe83bf27d3b0159a89b66b94845eb67", func := "loop.example/g03208/laws.FnExactBestCut", spec := "fnExactBestCut", unfollowed := true, recurses := true, apart := false, narrowed := true }
def FnExactBestCutUptoSaid : Prop := fnExactBestCutUptoRow.holds Try.pinned (OpenSpec.upto fnExactBestCutSpec)

/-- 'laws.FnHalving', WHERE WHAT IT READS IS OF BULK AT MOST 1048576: true; the input reads as it did. -/
def fnHalvingUptoRow : OpenClaim := { program := "ytdiphnkkomfmdaa", sum := "bbfaf71c3afa94520338b57b26a226fb9fe83bf27d3b0159a89b66b94845eb67", func := "loop.example/g03208/laws.FnHalving", spec := "fnHalving", unfollowed := true, recurses := true, apart := false, narrowed := true }
def FnHalvingUptoSaid : Prop := fnHalvingUptoRow.holds Try.pinned (OpenSpec.upto fnHalvingSpec)

/-- 'laws.FnExactSheetsAfter', WHERE WHAT IT READS IS OF BULK AT MOST 1048576: true; the input reads as it did. -/
def fnExactSheetsAfterUptoRow : OpenClaim := { program := "ytdiphnkkomfmdaa", sum := "bbfaf71c3afa94520338b57b26a226fb9fe83bf27d3b0159a89b66b94845eb67", func := "loop.example/g03208/laws.FnExactSheetsAfter", spec := "fnExactSheetsAfter", unfollowed := true, recurses := true, apart := false, narrowed := true }
def FnExactSheetsAfterUptoSaid : Prop := fnExactSheetsAfterUptoRow.holds Try.pinned (OpenSpec.upto fnExactSheetsAfterSpec)

/-- 'laws.FnLedger', WHERE WHAT IT READS IS OF BULK AT MOST 1048576: true; the input reads as it did. -/
def fnLedgerUptoRow : OpenClaim := { program := "ytdiphnkkomfmdaa", sum := "bbfaf71c3afa94520338b57b26a226fb9fe83bf27d3b0159a89b66b94845eb67", func := "loop.example/g03208/laws.FnLedger", spec := "fnLedger", unfollowed := true, recurses := true, apart := false, narrowed := true }
def FnLedgerUptoSaid : Prop := fnLedgerUptoRow.holds Try.pinned (OpenSpec.upto fnLedgerSpec)

end Rows
end Go.Proofs.Ytdiphnkkomfmdaa
