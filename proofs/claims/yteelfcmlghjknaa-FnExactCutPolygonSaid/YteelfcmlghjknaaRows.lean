/-
  No cell of these rows narrows 'for every input' (looked for: loops, veiled, ifaces, maps, wideKeys, modest, calm, conditions, laid).
  DERIVED. THE GIVEN ROWS OF THIS SEAT. 10 by the template 'for every input the law returns true; each argument reads behind the call as it read before'; 0 by the template 'total and deterministic' (their statements: YteelfcmlghjknaaTotals.lean).
  GIVEN WITH THE SEED: the statements are not yours to turn. If you find one false, say at which input.
  Laid BY PROGRAM, IN A SANDBOX (cutbox-rows.mjs): the forced cells as the released guide's own fill.sh prints them over the translation 15c54a84ae2aa2a6… (all of the seat's roots in one cut). By AI agents, Wed Nov 11 2026. No macro, syntax, notation, axiom, sorry.
-/
import Derived.Test.YteelfcmlghjknaaChecked
import GoSem.Claim
import GoSem.ClaimJoined
import GoSem.ClaimMapViews
import Derived.JoinedTies
import Derived.KernelRfl
namespace Go.Proofs.Yteelfcmlghjknaa
/- THE CELL 'sum', in the pinned program and in every row, IS THE sha256 OF THE DUMP (.gsa) THAT YteelfcmlghjknaaProg.lean LOADS. Nothing in Lean hashes anything: it is a label: what it is worth is what the hold of that sum in a sandbox is worth. -/
noncomputable def Try.pinned : Pinned := { name := "yteelfcmlghjknaa", sum := "15c54a84ae2aa2a6cdf25d511bb462b456b6ed5da9adf0af7a9b48d8019b5a5b", checked := Try.checked }
namespace Rows
def none {H : Type} : Left H := { results := [], args := [] }

/-- 'laws.FnExactNewTable': WHATEVER THE INPUT: true; the input reads as it did. -/
def fnExactNewTableSpec : ChangeSpec := { name := "fnExactNewTable", fn := fun _ => fun
  | [] => { results := [.lit (.bool true)], args := [] }
  | _ => none }
def fnExactNewTableRow : OpenClaim := { program := "yteelfcmlghjknaa", sum := "15c54a84ae2aa2a6cdf25d511bb462b456b6ed5da9adf0af7a9b48d8019b5a5b", func := "loop.example/g03208/laws.FnExactNewTable", spec := "fnExactNewTable", apart := false }
def FnExactNewTableSaid : Prop := fnExactNewTableRow.holds Try.pinned (OpenSpec.ofChange fnExactNewTableSpec)

/-- ITS FALSE NEIGHBOUR: 'it returns false'. Refute it at one input. -/
def fnExactNewTableWrong : ChangeSpec := { name := "fnExactNewTable", fn := fun _ => fun
  | [] => { results := [.lit (.bool false)], args := [] }
  | _ => none }
def FnExactNewTableWrongFalsely : Prop := fnExactNewTableRow.holds Try.pinned (OpenSpec.ofChange fnExactNewTableWrong)

/-- 'laws.FnExactHalvingPairs': WHATEVER THE INPUT: true; the input reads as it did. -/
def fnExactHalvingPairsSpec : ChangeSpec := { name := "fnExactHalvingPairs", fn := fun _ => fun
  | [d] => { results := [.lit (.bool true)], args := [d] }
  | _ => none }
def fnExactHalvingPairsRow : OpenClaim := { program := "yteelfcmlghjknaa", sum := "15c54a84ae2aa2a6cdf25d511bb462b456b6ed5da9adf0af7a9b48d8019b5a5b", func := "loop.example/g03208/laws.FnExactHalvingPairs", spec := "fnExactHalvingPairs", apart := false }
def FnExactHalvingPairsSaid : Prop := fnExactHalvingPairsRow.holds Try.pinned (OpenSpec.ofChange fnExactHalvingPairsSpec)

/-- ITS FALSE NEIGHBOUR: 'it returns false'. Refute it at one input. -/
def fnExactHalvingPairsWrong : ChangeSpec := { name := "fnExactHalvingPairs", fn := fun _ => fun
  | [d] => { results := [.lit (.bool false)], args := [d] }
  | _ => none }
def FnExactHalvingPairsWrongFalsely : Prop := fnExactHalvingPairsRow.holds Try.pinned (OpenSpec.ofChange fnExactHalvingPairsWrong)

/-- 'laws.FnExactAddEntry': WHATEVER THE INPUT: true; the input reads as it did. -/
def fnExactAddEntrySpec : ChangeSpec := { name := "fnExactAddEntry", fn := fun _ => fun
  | [d1, d2] => { results := [.lit (.bool true)], args := [d1, d2] }
  | _ => none }
def fnExactAddEntryRow : OpenClaim := { program := "yteelfcmlghjknaa", sum := "15c54a84ae2aa2a6cdf25d511bb462b456b6ed5da9adf0af7a9b48d8019b5a5b", func := "loop.example/g03208/laws.FnExactAddEntry", spec := "fnExactAddEntry", apart := false }
def FnExactAddEntrySaid : Prop := fnExactAddEntryRow.holds Try.pinned (OpenSpec.ofChange fnExactAddEntrySpec)

/-- ITS FALSE NEIGHBOUR: 'it returns false'. Refute it at one input. -/
def fnExactAddEntryWrong : ChangeSpec := { name := "fnExactAddEntry", fn := fun _ => fun
  | [d1, d2] => { results := [.lit (.bool false)], args := [d1, d2] }
  | _ => none }
def FnExactAddEntryWrongFalsely : Prop := fnExactAddEntryRow.holds Try.pinned (OpenSpec.ofChange fnExactAddEntryWrong)

/-- 'laws.FnExactAreLoose': WHATEVER THE INPUT: true; the input reads as it did. -/
def fnExactAreLooseSpec : ChangeSpec := { name := "fnExactAreLoose", fn := fun _ => fun
  | [d1, d2] => { results := [.lit (.bool true)], args := [d1, d2] }
  | _ => none }
def fnExactAreLooseRow : OpenClaim := { program := "yteelfcmlghjknaa", sum := "15c54a84ae2aa2a6cdf25d511bb462b456b6ed5da9adf0af7a9b48d8019b5a5b", func := "loop.example/g03208/laws.FnExactAreLoose", spec := "fnExactAreLoose", apart := false }
def FnExactAreLooseSaid : Prop := fnExactAreLooseRow.holds Try.pinned (OpenSpec.ofChange fnExactAreLooseSpec)

/-- ITS FALSE NEIGHBOUR: 'it returns false'. Refute it at one input. -/
def fnExactAreLooseWrong : ChangeSpec := { name := "fnExactAreLoose", fn := fun _ => fun
  | [d1, d2] => { results := [.lit (.bool false)], args := [d1, d2] }
  | _ => none }
def FnExactAreLooseWrongFalsely : Prop := fnExactAreLooseRow.holds Try.pinned (OpenSpec.ofChange fnExactAreLooseWrong)

/-- 'laws.FnExactTableOk': WHATEVER THE INPUT: true; the input reads as it did. -/
def fnExactTableOkSpec : ChangeSpec := { name := "fnExactTableOk", fn := fun _ => fun
  | [d] => { results := [.lit (.bool true)], args := [d] }
  | _ => none }
def fnExactTableOkRow : OpenClaim := { program := "yteelfcmlghjknaa", sum := "15c54a84ae2aa2a6cdf25d511bb462b456b6ed5da9adf0af7a9b48d8019b5a5b", func := "loop.example/g03208/laws.FnExactTableOk", spec := "fnExactTableOk", unfollowed := true, recurses := true, apart := false }
def FnExactTableOkSaid : Prop := fnExactTableOkRow.holds Try.pinned (OpenSpec.ofChange fnExactTableOkSpec)

/-- ITS FALSE NEIGHBOUR: 'it returns false'. Refute it at one input. -/
def fnExactTableOkWrong : ChangeSpec := { name := "fnExactTableOk", fn := fun _ => fun
  | [d] => { results := [.lit (.bool false)], args := [d] }
  | _ => none }
def FnExactTableOkWrongFalsely : Prop := fnExactTableOkRow.holds Try.pinned (OpenSpec.ofChange fnExactTableOkWrong)

/-- 'laws.FnExactCutPolygon': WHATEVER THE INPUT: true; the input reads as it did. -/
def fnExactCutPolygonSpec : ChangeSpec := { name := "fnExactCutPolygon", fn := fun _ => fun
  | [d1, d2, d3] => { results := [.lit (.bool true)], args := [d1, d2, d3] }
  | _ => none }
def fnExactCutPolygonRow : OpenClaim := { program := "yteelfcmlghjknaa", sum := "15c54a84ae2aa2a6cdf25d511bb462b456b6ed5da9adf0af7a9b48d8019b5a5b", func := "loop.example/g03208/laws.FnExactCutPolygon", spec := "fnExactCutPolygon", unfollowed := true, recurses := true, apart := false }
def FnExactCutPolygonSaid : Prop := fnExactCutPolygonRow.holds Try.pinned (OpenSpec.ofChange fnExactCutPolygonSpec)

/-- ITS FALSE NEIGHBOUR: 'it returns false'. Refute it at one input. -/
def fnExactCutPolygonWrong : ChangeSpec := { name := "fnExactCutPolygon", fn := fun _ => fun
  | [d1, d2, d3] => { results := [.lit (.bool false)], args := [d1, d2, d3] }
  | _ => none }
def FnExactCutPolygonWrongFalsely : Prop := fnExactCutPolygonRow.holds Try.pinned (OpenSpec.ofChange fnExactCutPolygonWrong)

/-- 'laws.FnExactBestCut': WHATEVER THE INPUT: true; the input reads as it did. -/
def fnExactBestCutSpec : ChangeSpec := { name := "fnExactBestCut", fn := fun _ => fun
  | [d] => { results := [.lit (.bool true)], args := [d] }
  | _ => none }
def fnExactBestCutRow : OpenClaim := { program := "yteelfcmlghjknaa", sum := "15c54a84ae2aa2a6cdf25d511bb462b456b6ed5da9adf0af7a9b48d8019b5a5b", func := "loop.example/g03208/laws.FnExactBestCut", spec := "fnExactBestCut", unfollowed := true, recurses := true, apart := false }
def FnExactBestCutSaid : Prop := fnExactBestCutRow.holds Try.pinned (OpenSpec.ofChange fnExactBestCutSpec)

/-- ITS FALSE NEIGHBOUR: 'it returns false'. Refute it at one input. -/
def fnExactBestCutWrong : ChangeSpec := { name := "fnExactBestCut", fn := fun _ => fun
  | [d] => { results := [.lit (.bool false)], args := [d] }
  | _ => none }
def FnExactBestCutWrongFalsely : Prop := fnExactBestCutRow.holds Try.pinned (OpenSpec.ofChange fnExactBestCutWrong)

/-- 'laws.FnExactTotalsOf': WHATEVER THE INPUT: true; the input reads as it did. -/
def fnExactTotalsOfSpec : ChangeSpec := { name := "fnExactTotalsOf", fn := fun _ => fun
  | [d] => { results := [.lit (.bool true)], args := [d] }
  | _ => none }
def fnExactTotalsOfRow : OpenClaim := { program := "yteelfcmlghjknaa", sum := "15c54a84ae2aa2a6cdf25d511bb462b456b6ed5da9adf0af7a9b48d8019b5a5b", func := "loop.example/g03208/laws.FnExactTotalsOf", spec := "fnExactTotalsOf", apart := false }
def FnExactTotalsOfSaid : Prop := fnExactTotalsOfRow.holds Try.pinned (OpenSpec.ofChange fnExactTotalsOfSpec)

/-- ITS FALSE NEIGHBOUR: 'it returns false'. Refute it at one input. -/
def fnExactTotalsOfWrong : ChangeSpec := { name := "fnExactTotalsOf", fn := fun _ => fun
  | [d] => { results := [.lit (.bool false)], args := [d] }
  | _ => none }
def FnExactTotalsOfWrongFalsely : Prop := fnExactTotalsOfRow.holds Try.pinned (OpenSpec.ofChange fnExactTotalsOfWrong)

/-- 'laws.FnExactSheetsAfter': WHATEVER THE INPUT: true; the input reads as it did. -/
def fnExactSheetsAfterSpec : ChangeSpec := { name := "fnExactSheetsAfter", fn := fun _ => fun
  | [d] => { results := [.lit (.bool true)], args := [d] }
  | _ => none }
def fnExactSheetsAfterRow : OpenClaim := { program := "yteelfcmlghjknaa", sum := "15c54a84ae2aa2a6cdf25d511bb462b456b6ed5da9adf0af7a9b48d8019b5a5b", func := "loop.example/g03208/laws.FnExactSheetsAfter", spec := "fnExactSheetsAfter", unfollowed := true, recurses := true, apart := false }
def FnExactSheetsAfterSaid : Prop := fnExactSheetsAfterRow.holds Try.pinned (OpenSpec.ofChange fnExactSheetsAfterSpec)

/-- ITS FALSE NEIGHBOUR: 'it returns false'. Refute it at one input. -/
def fnExactSheetsAfterWrong : ChangeSpec := { name := "fnExactSheetsAfter", fn := fun _ => fun
  | [d] => { results := [.lit (.bool false)], args := [d] }
  | _ => none }
def FnExactSheetsAfterWrongFalsely : Prop := fnExactSheetsAfterRow.holds Try.pinned (OpenSpec.ofChange fnExactSheetsAfterWrong)

/-- 'laws.FnExactShareOut': WHATEVER THE INPUT: true; the input reads as it did. -/
def fnExactShareOutSpec : ChangeSpec := { name := "fnExactShareOut", fn := fun _ => fun
  | [d1, d2] => { results := [.lit (.bool true)], args := [d1, d2] }
  | _ => none }
def fnExactShareOutRow : OpenClaim := { program := "yteelfcmlghjknaa", sum := "15c54a84ae2aa2a6cdf25d511bb462b456b6ed5da9adf0af7a9b48d8019b5a5b", func := "loop.example/g03208/laws.FnExactShareOut", spec := "fnExactShareOut", unfollowed := true, recurses := true, apart := false }
def FnExactShareOutSaid : Prop := fnExactShareOutRow.holds Try.pinned (OpenSpec.ofChange fnExactShareOutSpec)

/-- ITS FALSE NEIGHBOUR: 'it returns false'. Refute it at one input. -/
def fnExactShareOutWrong : ChangeSpec := { name := "fnExactShareOut", fn := fun _ => fun
  | [d1, d2] => { results := [.lit (.bool false)], args := [d1, d2] }
  | _ => none }
def FnExactShareOutWrongFalsely : Prop := fnExactShareOutRow.holds Try.pinned (OpenSpec.ofChange fnExactShareOutWrong)

/- THE SECOND FORM. 'bulk': how many values and letters a reading holds, each counted each time it is reached (what is shared counts as often as it is met; a slice's spare places count too). A statement '..UptoSaid' is the law's where the arguments, and the package variables that the reading takes, are together of bulk at most 1048576: NARROWER than '..Said'. Prove '..Said' where nothing that the law and all that it calls make is longer than what came in: it says more and counts as full. Else prove '..UptoSaid'. A law counts once. -/
mutual
def uptoBulk {H : Type} : DataW H → Nat
  | .lit (.string bytes) => bytes.length + 1
  | .lit _ => 1
  | .nil => 1
  | .ptr d => uptoBulk d + 1
  | .slice elems spare => uptoBulkAll elems + uptoBulkAll spare + 1
  | .agg parts => uptoBulkAll parts + 1
  | .iface _ d => uptoBulk d + 1
  | .map entries => uptoBulkEntries entries + 1
  | .held _ => 1
def uptoBulkAll {H : Type} : List (DataW H) → Nat
  | [] => 0
  | d :: r => uptoBulk d + uptoBulkAll r
def uptoBulkEntries {H : Type} : List (Lit × DataW H) → Nat
  | [] => 0
  | x :: r => uptoBulkEntry x + uptoBulkEntries r
def uptoBulkEntry {H : Type} : Lit × DataW H → Nat
  | (.string bytes, d) => bytes.length + uptoBulk d + 1
  | (_, d) => uptoBulk d + 1
 end
def uptoSmall : (H : Type) → List (DataW H) → Bool := fun _ ds => decide (uptoBulkAll ds ≤ 1048576)
def OpenSpec.upto (s : _root_.Go.ChangeSpec) : _root_.Go.OpenSpec := { _root_.Go.OpenSpec.ofChange s with cond := some uptoSmall }

/-- 'laws.FnExactNewTable', WHERE WHAT IT READS IS OF BULK AT MOST 1048576: true; the input reads as it did. -/
def fnExactNewTableUptoRow : OpenClaim := { program := "yteelfcmlghjknaa", sum := "15c54a84ae2aa2a6cdf25d511bb462b456b6ed5da9adf0af7a9b48d8019b5a5b", func := "loop.example/g03208/laws.FnExactNewTable", spec := "fnExactNewTable", apart := false, narrowed := true }
def FnExactNewTableUptoSaid : Prop := fnExactNewTableUptoRow.holds Try.pinned (OpenSpec.upto fnExactNewTableSpec)

/-- 'laws.FnExactHalvingPairs', WHERE WHAT IT READS IS OF BULK AT MOST 1048576: true; the input reads as it did. -/
def fnExactHalvingPairsUptoRow : OpenClaim := { program := "yteelfcmlghjknaa", sum := "15c54a84ae2aa2a6cdf25d511bb462b456b6ed5da9adf0af7a9b48d8019b5a5b", func := "loop.example/g03208/laws.FnExactHalvingPairs", spec := "fnExactHalvingPairs", apart := false, narrowed := true }
def FnExactHalvingPairsUptoSaid : Prop := fnExactHalvingPairsUptoRow.holds Try.pinned (OpenSpec.upto fnExactHalvingPairsSpec)

/-- 'laws.FnExactAddEntry', WHERE WHAT IT READS IS OF BULK AT MOST 1048576: true; the input reads as it did. -/
def fnExactAddEntryUptoRow : OpenClaim := { program := "yteelfcmlghjknaa", sum := "15c54a84ae2aa2a6cdf25d511bb462b456b6ed5da9adf0af7a9b48d8019b5a5b", func := "loop.example/g03208/laws.FnExactAddEntry", spec := "fnExactAddEntry", apart := false, narrowed := true }
def FnExactAddEntryUptoSaid : Prop := fnExactAddEntryUptoRow.holds Try.pinned (OpenSpec.upto fnExactAddEntrySpec)

/-- 'laws.FnExactAreLoose', WHERE WHAT IT READS IS OF BULK AT MOST 1048576: true; the input reads as it did. -/
def fnExactAreLooseUptoRow : OpenClaim := { program := "yteelfcmlghjknaa", sum := "15c54a84ae2aa2a6cdf25d511bb462b456b6ed5da9adf0af7a9b48d8019b5a5b", func := "loop.example/g03208/laws.FnExactAreLoose", spec := "fnExactAreLoose", apart := false, narrowed := true }
def FnExactAreLooseUptoSaid : Prop := fnExactAreLooseUptoRow.holds Try.pinned (OpenSpec.upto fnExactAreLooseSpec)

/-- 'laws.FnExactTableOk', WHERE WHAT IT READS IS OF BULK AT MOST 1048576: true; the input reads as it did. -/
def fnExactTableOkUptoRow : OpenClaim := { program := "yteelfcmlghjknaa", sum := "15c54a84ae2aa2a6cdf25d511bb462b456b6ed5da9adf0af7a9b48d8019b5a5b", func := "loop.example/g03208/laws.FnExactTableOk", spec := "fnExactTableOk", unfollowed := true, recurses := true, apart := false, narrowed := true }
def FnExactTableOkUptoSaid : Prop := fnExactTableOkUptoRow.holds Try.pinned (OpenSpec.upto fnExactTableOkSpec)

/-- 'laws.FnExactCutPolygon', WHERE WHAT IT READS IS OF BULK AT MOST 1048576: true; the input reads as it did. -/
def fnExactCutPolygonUptoRow : OpenClaim := { program := "yteelfcmlghjknaa", sum := "15c54a84ae2aa2a6cdf25d511bb462b456b6ed5da9adf0af7a9b48d8019b5a5b", func := "loop.example/g03208/laws.FnExactCutPolygon", spec := "fnExactCutPolygon", unfollowed := true, recurses := true, apart := false, narrowed := true }
def FnExactCutPolygonUptoSaid : Prop := fnExactCutPolygonUptoRow.holds Try.pinned (OpenSpec.upto fnExactCutPolygonSpec)

/-- 'laws.FnExactBestCut', WHERE WHAT IT READS IS OF BULK AT MOST 1048576: true; the input reads as it did. -/
def fnExactBestCutUptoRow : OpenClaim := { program := "yteelfcmlghjknaa", sum := "15c54a84ae2aa2a6cdf25d511bb462b456b6ed5da9adf0af7a9b48d8019b5a5b", func := "loop.example/g03208/laws.FnExactBestCut", spec := "fnExactBestCut", unfollowed := true, recurses := true, apart := false, narrowed := true }
def FnExactBestCutUptoSaid : Prop := fnExactBestCutUptoRow.holds Try.pinned (OpenSpec.upto fnExactBestCutSpec)

/-- 'laws.FnExactTotalsOf', WHERE WHAT IT READS IS OF BULK AT MOST 1048576: true; the input reads as it did. -/
def fnExactTotalsOfUptoRow : OpenClaim := { program := "yteelfcmlghjknaa", sum := "15c54a84ae2aa2a6cdf25d511bb462b456b6ed5da9adf0af7a9b48d8019b5a5b", func := "loop.example/g03208/laws.FnExactTotalsOf", spec := "fnExactTotalsOf", apart := false, narrowed := true }
def FnExactTotalsOfUptoSaid : Prop := fnExactTotalsOfUptoRow.holds Try.pinned (OpenSpec.upto fnExactTotalsOfSpec)

/-- 'laws.FnExactSheetsAfter', WHERE WHAT IT READS IS OF BULK AT MOST 1048576: true; the input reads as it did. -/
def fnExactSheetsAfterUptoRow : OpenClaim := { program := "yteelfcmlghjknaa", sum := "15c54a84ae2aa2a6cdf25d511bb462b456b6ed5da9adf0af7a9b48d8019b5a5b", func := "loop.example/g03208/laws.FnExactSheetsAfter", spec := "fnExactSheetsAfter", unfollowed := true, recurses := true, apart := false, narrowed := true }
def FnExactSheetsAfterUptoSaid : Prop := fnExactSheetsAfterUptoRow.holds Try.pinned (OpenSpec.upto fnExactSheetsAfterSpec)

/-- 'laws.FnExactShareOut', WHERE WHAT IT READS IS OF BULK AT MOST 1048576: true; the input reads as it did. -/
def fnExactShareOutUptoRow : OpenClaim := { program := "yteelfcmlghjknaa", sum := "15c54a84ae2aa2a6cdf25d511bb462b456b6ed5da9adf0af7a9b48d8019b5a5b", func := "loop.example/g03208/laws.FnExactShareOut", spec := "fnExactShareOut", unfollowed := true, recurses := true, apart := false, narrowed := true }
def FnExactShareOutUptoSaid : Prop := fnExactShareOutUptoRow.holds Try.pinned (OpenSpec.upto fnExactShareOutSpec)

end Rows
end Go.Proofs.Yteelfcmlghjknaa
