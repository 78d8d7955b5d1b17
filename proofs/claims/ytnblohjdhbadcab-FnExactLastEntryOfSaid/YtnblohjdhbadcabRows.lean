/-
  No cell of these rows narrows 'for every input' (looked for: loops, veiled, ifaces, maps, wideKeys, modest, calm, conditions, laid).
  DERIVED. THE GIVEN ROWS OF THIS SEAT. 10 by the template 'for every input the law returns true; each argument reads behind the call as it read before'; 0 by the template 'total and deterministic' (their statements: YtnblohjdhbadcabTotals.lean).
  GIVEN WITH THE SEED: the statements are not yours to turn. If you find one false, say at which input.
  Laid BY PROGRAM, IN A SANDBOX (cutbox-rows.mjs): the forced cells as the released guide's own fill.sh prints them over the translation 7e7bb4158e52ebb6… (all of the seat's roots in one cut). By AI agents, Wed Nov 11 2026. No macro, syntax, notation, axiom, sorry.
-/
import Derived.Test.YtnblohjdhbadcabChecked
import GoSem.Claim
import GoSem.ClaimJoined
import GoSem.ClaimMapViews
import Derived.JoinedTies
import Derived.KernelRfl
namespace Go.Proofs.Ytnblohjdhbadcab
/- THE CELL 'sum', in the pinned program and in every row, IS THE sha256 OF THE DUMP (.gsa) THAT YtnblohjdhbadcabProg.lean LOADS. Nothing in Lean hashes anything: it is a label: what it is worth is what the hold of that sum in a sandbox is worth. -/
noncomputable def Try.pinned : Pinned := { name := "ytnblohjdhbadcab", sum := "7e7bb4158e52ebb6b0b68b563a8d6e639339b288ed3ac7bea9ab22b09db2fa95", checked := Try.checked }
namespace Rows
def none {H : Type} : Left H := { results := [], args := [] }

/-- 'laws.FnExactLedgerOk': WHATEVER THE INPUT: true; the input reads as it did. -/
def fnExactLedgerOkSpec : ChangeSpec := { name := "fnExactLedgerOk", fn := fun _ => fun
  | [d] => { results := [.lit (.bool true)], args := [d] }
  | _ => none }
def fnExactLedgerOkRow : OpenClaim := { program := "ytnblohjdhbadcab", sum := "7e7bb4158e52ebb6b0b68b563a8d6e639339b288ed3ac7bea9ab22b09db2fa95", func := "loop.example/g03208/laws.FnExactLedgerOk", spec := "fnExactLedgerOk", apart := false }
def FnExactLedgerOkSaid : Prop := fnExactLedgerOkRow.holds Try.pinned (OpenSpec.ofChange fnExactLedgerOkSpec)

/-- ITS FALSE NEIGHBOUR: 'it returns false'. Refute it at one input. -/
def fnExactLedgerOkWrong : ChangeSpec := { name := "fnExactLedgerOk", fn := fun _ => fun
  | [d] => { results := [.lit (.bool false)], args := [d] }
  | _ => none }
def FnExactLedgerOkWrongFalsely : Prop := fnExactLedgerOkRow.holds Try.pinned (OpenSpec.ofChange fnExactLedgerOkWrong)

/-- 'laws.FnExactFirstWrong': WHATEVER THE INPUT: true; the input reads as it did. -/
def fnExactFirstWrongSpec : ChangeSpec := { name := "fnExactFirstWrong", fn := fun _ => fun
  | [d] => { results := [.lit (.bool true)], args := [d] }
  | _ => none }
def fnExactFirstWrongRow : OpenClaim := { program := "ytnblohjdhbadcab", sum := "7e7bb4158e52ebb6b0b68b563a8d6e639339b288ed3ac7bea9ab22b09db2fa95", func := "loop.example/g03208/laws.FnExactFirstWrong", spec := "fnExactFirstWrong", apart := false }
def FnExactFirstWrongSaid : Prop := fnExactFirstWrongRow.holds Try.pinned (OpenSpec.ofChange fnExactFirstWrongSpec)

/-- ITS FALSE NEIGHBOUR: 'it returns false'. Refute it at one input. -/
def fnExactFirstWrongWrong : ChangeSpec := { name := "fnExactFirstWrong", fn := fun _ => fun
  | [d] => { results := [.lit (.bool false)], args := [d] }
  | _ => none }
def FnExactFirstWrongWrongFalsely : Prop := fnExactFirstWrongRow.holds Try.pinned (OpenSpec.ofChange fnExactFirstWrongWrong)

/-- 'laws.FnExactAreaOfSheet': WHATEVER THE INPUT: true; the input reads as it did. -/
def fnExactAreaOfSheetSpec : ChangeSpec := { name := "fnExactAreaOfSheet", fn := fun _ => fun
  | [d1, d2] => { results := [.lit (.bool true)], args := [d1, d2] }
  | _ => none }
def fnExactAreaOfSheetRow : OpenClaim := { program := "ytnblohjdhbadcab", sum := "7e7bb4158e52ebb6b0b68b563a8d6e639339b288ed3ac7bea9ab22b09db2fa95", func := "loop.example/g03208/laws.FnExactAreaOfSheet", spec := "fnExactAreaOfSheet", apart := false }
def FnExactAreaOfSheetSaid : Prop := fnExactAreaOfSheetRow.holds Try.pinned (OpenSpec.ofChange fnExactAreaOfSheetSpec)

/-- ITS FALSE NEIGHBOUR: 'it returns false'. Refute it at one input. -/
def fnExactAreaOfSheetWrong : ChangeSpec := { name := "fnExactAreaOfSheet", fn := fun _ => fun
  | [d1, d2] => { results := [.lit (.bool false)], args := [d1, d2] }
  | _ => none }
def FnExactAreaOfSheetWrongFalsely : Prop := fnExactAreaOfSheetRow.holds Try.pinned (OpenSpec.ofChange fnExactAreaOfSheetWrong)

/-- 'laws.FnExactNextNumber': WHATEVER THE INPUT: true; the input reads as it did. -/
def fnExactNextNumberSpec : ChangeSpec := { name := "fnExactNextNumber", fn := fun _ => fun
  | [d] => { results := [.lit (.bool true)], args := [d] }
  | _ => none }
def fnExactNextNumberRow : OpenClaim := { program := "ytnblohjdhbadcab", sum := "7e7bb4158e52ebb6b0b68b563a8d6e639339b288ed3ac7bea9ab22b09db2fa95", func := "loop.example/g03208/laws.FnExactNextNumber", spec := "fnExactNextNumber", apart := false }
def FnExactNextNumberSaid : Prop := fnExactNextNumberRow.holds Try.pinned (OpenSpec.ofChange fnExactNextNumberSpec)

/-- ITS FALSE NEIGHBOUR: 'it returns false'. Refute it at one input. -/
def fnExactNextNumberWrong : ChangeSpec := { name := "fnExactNextNumber", fn := fun _ => fun
  | [d] => { results := [.lit (.bool false)], args := [d] }
  | _ => none }
def FnExactNextNumberWrongFalsely : Prop := fnExactNextNumberRow.holds Try.pinned (OpenSpec.ofChange fnExactNextNumberWrong)

/-- 'laws.FnExactLastEntryOf': WHATEVER THE INPUT: true; the input reads as it did. -/
def fnExactLastEntryOfSpec : ChangeSpec := { name := "fnExactLastEntryOf", fn := fun _ => fun
  | [d1, d2] => { results := [.lit (.bool true)], args := [d1, d2] }
  | _ => none }
def fnExactLastEntryOfRow : OpenClaim := { program := "ytnblohjdhbadcab", sum := "7e7bb4158e52ebb6b0b68b563a8d6e639339b288ed3ac7bea9ab22b09db2fa95", func := "loop.example/g03208/laws.FnExactLastEntryOf", spec := "fnExactLastEntryOf", apart := false }
def FnExactLastEntryOfSaid : Prop := fnExactLastEntryOfRow.holds Try.pinned (OpenSpec.ofChange fnExactLastEntryOfSpec)

/-- ITS FALSE NEIGHBOUR: 'it returns false'. Refute it at one input. -/
def fnExactLastEntryOfWrong : ChangeSpec := { name := "fnExactLastEntryOf", fn := fun _ => fun
  | [d1, d2] => { results := [.lit (.bool false)], args := [d1, d2] }
  | _ => none }
def FnExactLastEntryOfWrongFalsely : Prop := fnExactLastEntryOfRow.holds Try.pinned (OpenSpec.ofChange fnExactLastEntryOfWrong)

/-- 'laws.FnExactTotalsOf': WHATEVER THE INPUT: true; the input reads as it did. -/
def fnExactTotalsOfSpec : ChangeSpec := { name := "fnExactTotalsOf", fn := fun _ => fun
  | [d] => { results := [.lit (.bool true)], args := [d] }
  | _ => none }
def fnExactTotalsOfRow : OpenClaim := { program := "ytnblohjdhbadcab", sum := "7e7bb4158e52ebb6b0b68b563a8d6e639339b288ed3ac7bea9ab22b09db2fa95", func := "loop.example/g03208/laws.FnExactTotalsOf", spec := "fnExactTotalsOf", apart := false }
def FnExactTotalsOfSaid : Prop := fnExactTotalsOfRow.holds Try.pinned (OpenSpec.ofChange fnExactTotalsOfSpec)

/-- ITS FALSE NEIGHBOUR: 'it returns false'. Refute it at one input. -/
def fnExactTotalsOfWrong : ChangeSpec := { name := "fnExactTotalsOf", fn := fun _ => fun
  | [d] => { results := [.lit (.bool false)], args := [d] }
  | _ => none }
def FnExactTotalsOfWrongFalsely : Prop := fnExactTotalsOfRow.holds Try.pinned (OpenSpec.ofChange fnExactTotalsOfWrong)

/-- 'laws.FnExactAddEntry': WHATEVER THE INPUT: true; the input reads as it did. -/
def fnExactAddEntrySpec : ChangeSpec := { name := "fnExactAddEntry", fn := fun _ => fun
  | [d1, d2] => { results := [.lit (.bool true)], args := [d1, d2] }
  | _ => none }
def fnExactAddEntryRow : OpenClaim := { program := "ytnblohjdhbadcab", sum := "7e7bb4158e52ebb6b0b68b563a8d6e639339b288ed3ac7bea9ab22b09db2fa95", func := "loop.example/g03208/laws.FnExactAddEntry", spec := "fnExactAddEntry", apart := false }
def FnExactAddEntrySaid : Prop := fnExactAddEntryRow.holds Try.pinned (OpenSpec.ofChange fnExactAddEntrySpec)

/-- ITS FALSE NEIGHBOUR: 'it returns false'. Refute it at one input. -/
def fnExactAddEntryWrong : ChangeSpec := { name := "fnExactAddEntry", fn := fun _ => fun
  | [d1, d2] => { results := [.lit (.bool false)], args := [d1, d2] }
  | _ => none }
def FnExactAddEntryWrongFalsely : Prop := fnExactAddEntryRow.holds Try.pinned (OpenSpec.ofChange fnExactAddEntryWrong)

/-- 'laws.FnExactSheetsAfter': WHATEVER THE INPUT: true; the input reads as it did. -/
def fnExactSheetsAfterSpec : ChangeSpec := { name := "fnExactSheetsAfter", fn := fun _ => fun
  | [d] => { results := [.lit (.bool true)], args := [d] }
  | _ => none }
def fnExactSheetsAfterRow : OpenClaim := { program := "ytnblohjdhbadcab", sum := "7e7bb4158e52ebb6b0b68b563a8d6e639339b288ed3ac7bea9ab22b09db2fa95", func := "loop.example/g03208/laws.FnExactSheetsAfter", spec := "fnExactSheetsAfter", unfollowed := true, recurses := true, apart := false }
def FnExactSheetsAfterSaid : Prop := fnExactSheetsAfterRow.holds Try.pinned (OpenSpec.ofChange fnExactSheetsAfterSpec)

/-- ITS FALSE NEIGHBOUR: 'it returns false'. Refute it at one input. -/
def fnExactSheetsAfterWrong : ChangeSpec := { name := "fnExactSheetsAfter", fn := fun _ => fun
  | [d] => { results := [.lit (.bool false)], args := [d] }
  | _ => none }
def FnExactSheetsAfterWrongFalsely : Prop := fnExactSheetsAfterRow.holds Try.pinned (OpenSpec.ofChange fnExactSheetsAfterWrong)

/-- 'laws.FnLedger': WHATEVER THE INPUT: true; the input reads as it did. -/
def fnLedgerSpec : ChangeSpec := { name := "fnLedger", fn := fun _ => fun
  | [d] => { results := [.lit (.bool true)], args := [d] }
  | _ => none }
def fnLedgerRow : OpenClaim := { program := "ytnblohjdhbadcab", sum := "7e7bb4158e52ebb6b0b68b563a8d6e639339b288ed3ac7bea9ab22b09db2fa95", func := "loop.example/g03208/laws.FnLedger", spec := "fnLedger", unfollowed := true, recurses := true, apart := false }
def FnLedgerSaid : Prop := fnLedgerRow.holds Try.pinned (OpenSpec.ofChange fnLedgerSpec)

/-- ITS FALSE NEIGHBOUR: 'it returns false'. Refute it at one input. -/
def fnLedgerWrong : ChangeSpec := { name := "fnLedger", fn := fun _ => fun
  | [d] => { results := [.lit (.bool false)], args := [d] }
  | _ => none }
def FnLedgerWrongFalsely : Prop := fnLedgerRow.holds Try.pinned (OpenSpec.ofChange fnLedgerWrong)

/-- 'laws.FnExactTableOk': WHATEVER THE INPUT: true; the input reads as it did. -/
def fnExactTableOkSpec : ChangeSpec := { name := "fnExactTableOk", fn := fun _ => fun
  | [d] => { results := [.lit (.bool true)], args := [d] }
  | _ => none }
def fnExactTableOkRow : OpenClaim := { program := "ytnblohjdhbadcab", sum := "7e7bb4158e52ebb6b0b68b563a8d6e639339b288ed3ac7bea9ab22b09db2fa95", func := "loop.example/g03208/laws.FnExactTableOk", spec := "fnExactTableOk", unfollowed := true, recurses := true, apart := false }
def FnExactTableOkSaid : Prop := fnExactTableOkRow.holds Try.pinned (OpenSpec.ofChange fnExactTableOkSpec)

/-- ITS FALSE NEIGHBOUR: 'it returns false'. Refute it at one input. -/
def fnExactTableOkWrong : ChangeSpec := { name := "fnExactTableOk", fn := fun _ => fun
  | [d] => { results := [.lit (.bool false)], args := [d] }
  | _ => none }
def FnExactTableOkWrongFalsely : Prop := fnExactTableOkRow.holds Try.pinned (OpenSpec.ofChange fnExactTableOkWrong)

/- THE SECOND FORM. 'bulk': how many values and letters a reading holds, each counted each time it is reached (what is shared counts as often as it is met; a slice's spare places count too). A statement '..UptoSaid' is the law's where the arguments, and the package variables that the reading takes, are together of bulk at most 1048576: NARROWER than '..Said'. Prove '..Said' where nothing that the law and all that it calls make is longer than what came in: it says more and counts as full. Else prove '..UptoSaid'. A law counts once. -/
mutual
def uptoBulk {H : Type} : DataW H → Nat
  | .lit (.string bytes) => bytes.length + 1
  | .lit _ => 1
  | .nil => 1
  | .ptr d => uptoBulk d + 1
  | .slice elems spare => uptoBulkAll elems + uptoBulkAll spare + 1
  | .agg parts => uptoBulkAll parts + 1
  | .iface _ d => uptoBulk d + 1
  | .map entries => uptoBulkEntries entries + 1
  | .held _ => 1
def uptoBulkAll {H : Type} : List (DataW H) → Nat
  | [] => 0
  | d :: r => uptoBulk d + uptoBulkAll r
def uptoBulkEntries {H : Type} : List (Lit × DataW H) → Nat
  | [] => 0
  | x :: r => uptoBulkEntry x + uptoBulkEntries r
def uptoBulkEntry {H : Type} : Lit × DataW H → Nat
  | (.string bytes, d) => bytes.length + uptoBulk d + 1
  | (_, d) => uptoBulk d + 1
 end
def uptoSmall : (H : Type) → List (DataW H) → Bool := fun _ ds => decide (uptoBulkAll ds ≤ 1048576)
def OpenSpec.upto (s : _root_.Go.ChangeSpec) : _root_.Go.OpenSpec := { _root_.Go.OpenSpec.ofChange s with cond := some uptoSmall }

/-- 'laws.FnExactLedgerOk', WHERE WHAT IT READS IS OF BULK AT MOST 1048576: true; the input reads as it did. -/
def fnExactLedgerOkUptoRow : OpenClaim := { program := "ytnblohjdhbadcab", sum := "7e7bb4158e52ebb6b0b68b563a8d6e639339b288ed3ac7bea9ab22b09db2fa95", func := "loop.example/g03208/laws.FnExactLedgerOk", spec := "fnExactLedgerOk", apart := false, narrowed := true }
def FnExactLedgerOkUptoSaid : Prop := fnExactLedgerOkUptoRow.holds Try.pinned (OpenSpec.upto fnExactLedgerOkSpec)

/-- 'laws.FnExactFirstWrong', WHERE WHAT IT READS IS OF BULK AT MOST 1048576: true; the input reads as it did. -/
def fnExactFirstWrongUptoRow : OpenClaim := { program := "ytnblohjdhbadcab", sum := "7e7bb4158e52ebb6b0b68b563a8d6e639339b288ed3ac7bea9ab22b09db2fa95", func := "loop.example/g03208/laws.FnExactFirstWrong", spec := "fnExactFirstWrong", apart := false, narrowed := true }
def FnExactFirstWrongUptoSaid : Prop := fnExactFirstWrongUptoRow.holds Try.pinned (OpenSpec.upto fnExactFirstWrongSpec)

/-- 'laws.FnExactAreaOfSheet', WHERE WHAT IT READS IS OF BULK AT MOST 1048576: true; the input reads as it did. -/
def fnExactAreaOfSheetUptoRow : OpenClaim := { program := "ytnblohjdhbadcab", sum := "7e7bb4158e52ebb6b0b68b563a8d6e639339b288ed3ac7bea9ab22b09db2fa95", func := "loop.example/g03208/laws.FnExactAreaOfSheet", spec := "fnExactAreaOfSheet", apart := false, narrowed := true }
def FnExactAreaOfSheetUptoSaid : Prop := fnExactAreaOfSheetUptoRow.holds Try.pinned (OpenSpec.upto fnExactAreaOfSheetSpec)

/-- 'laws.FnExactNextNumber', WHERE WHAT IT READS IS OF BULK AT MOST 1048576: true; the input reads as it did. -/
def fnExactNextNumberUptoRow : OpenClaim := { program := "ytnblohjdhbadcab", sum := "7e7bb4158e52ebb6b0b68b563a8d6e639339b288ed3ac7bea9ab22b09db2fa95", func := "loop.example/g03208/laws.FnExactNextNumber", spec := "fnExactNextNumber", apart := false, narrowed := true }
def FnExactNextNumberUptoSaid : Prop := fnExactNextNumberUptoRow.holds Try.pinned (OpenSpec.upto fnExactNextNumberSpec)

/-- 'laws.FnExactLastEntryOf', WHERE WHAT IT READS IS OF BULK AT MOST 1048576: true; the input reads as it did. -/
def fnExactLastEntryOfUptoRow : OpenClaim := { program := "ytnblohjdhbadcab", sum := "7e7bb4158e52ebb6b0b68b563a8d6e639339b288ed3ac7bea9ab22b09db2fa95", func := "loop.example/g03208/laws.FnExactLastEntryOf", spec := "fnExactLastEntryOf", apart := false, narrowed := true }
def FnExactLastEntryOfUptoSaid : Prop := fnExactLastEntryOfUptoRow.holds Try.pinned (OpenSpec.upto fnExactLastEntryOfSpec)

/-- 'laws.FnExactTotalsOf', WHERE WHAT IT READS IS OF BULK AT MOST 1048576: true; the input reads as it did. -/
def fnExactTotalsOfUptoRow : OpenClaim := { program := "ytnblohjdhbadcab", sum := "7e7bb4158e52ebb6b0b68b563a8d6e639339b288ed3ac7bea9ab22b09db2fa95", func := "loop.example/g03208/laws.FnExactTotalsOf", spec := "fnExactTotalsOf", apart := false, narrowed := true }
def FnExactTotalsOfUptoSaid : Prop := fnExactTotalsOfUptoRow.holds Try.pinned (OpenSpec.upto fnExactTotalsOfSpec)

/-- 'laws.FnExactAddEntry', WHERE WHAT IT READS IS OF BULK AT MOST 1048576: true; the input reads as it did. -/
def fnExactAddEntryUptoRow : OpenClaim := { program := "ytnblohjdhbadcab", sum := "7e7bb4158e52ebb6b0b68b563a8d6e639339b288ed3ac7bea9ab22b09db2fa95", func := "loop.example/g03208/laws.FnExactAddEntry", spec := "fnExactAddEntry", apart := false, narrowed := true }
def FnExactAddEntryUptoSaid : Prop := fnExactAddEntryUptoRow.holds Try.pinned (OpenSpec.upto fnExactAddEntrySpec)

/-- 'laws.FnExactSheetsAfter', WHERE WHAT IT READS IS OF BULK AT MOST 1048576: true; the input reads as it did. -/
def fnExactSheetsAfterUptoRow : OpenClaim := { program := "ytnblohjdhbadcab", sum := "7e7bb4158e52ebb6b0b68b563a8d6e639339b288ed3ac7bea9ab22b09db2fa95", func := "loop.example/g03208/laws.FnExactSheetsAfter", spec := "fnExactSheetsAfter", unfollowed := true, recurses := true, apart := false, narrowed := true }
def FnExactSheetsAfterUptoSaid : Prop := fnExactSheetsAfterUptoRow.holds Try.pinned (OpenSpec.upto fnExactSheetsAfterSpec)

/-- 'laws.FnLedger', WHERE WHAT IT READS IS OF BULK AT MOST 1048576: true; the input reads as it did. -/
def fnLedgerUptoRow : OpenClaim := { program := "ytnblohjdhbadcab", sum := "7e7bb4158e52ebb6b0b68b563a8d6e639339b288ed3ac7bea9ab22b09db2fa95", func := "loop.example/g03208/laws.FnLedger", spec := "fnLedger", unfollowed := true, recurses := true, apart := false, narrowed := true }
def FnLedgerUptoSaid : Prop := fnLedgerUptoRow.holds Try.pinned (OpenSpec.upto fnLedgerSpec)

/-- 'laws.FnExactTableOk', WHERE WHAT IT READS IS OF BULK AT MOST 1048576: true; the input reads as it did. -/
def fnExactTableOkUptoRow : OpenClaim := { program := "ytnblohjdhbadcab", sum := "7e7bb4158e52ebb6b0b68b563a8d6e639339b288ed3ac7bea9ab22b09db2fa95", func := "loop.example/g03208/laws.FnExactTableOk", spec := "fnExactTableOk", unfollowed := true, recurses := true, apart := false, narrowed := true }
def FnExactTableOkUptoSaid : Prop := fnExactTableOkUptoRow.holds Try.pinned (OpenSpec.upto fnExactTableOkSpec)

end Rows
end Go.Proofs.Ytnblohjdhbadcab
