/-
  NARROWER THAN 'FOR EVERY INPUT', by the rows' own cells (each row's printed sentence says how): FnExactFacesOf: laid · FnExactCreasesOf: laid · FnExactTopUnit: laid · FnExactFoldOrder: laid.
  DERIVED. THE GIVEN ROWS OF THIS SEAT. 4 by the template 'for every input the law returns true; each argument reads behind the call as it read before'; 0 by the template 'total and deterministic' (their statements: YtohlccmebhfdaaaDoorTotals.lean).
  GIVEN WITH THE SEED: the statements are not yours to turn. If you find one false, say at which input.
  Laid BY PROGRAM, IN A SANDBOX (cutbox-rows.mjs): the forced cells as the released guide's own fill.sh prints them over the translation c714ef6030c234a5… (all of the seat's roots in one cut). By AI agents, Wed Nov 11 2026. No macro, syntax, notation, axiom, sorry.
-/
import Derived.Test.YtohlccmebhfdaaaDoorChecked
import GoSem.PinnedTables
import GoSem.Claim
import GoSem.ClaimJoined
import GoSem.ClaimMapViews
import Derived.JoinedTies
import Derived.KernelRfl
namespace Go.Proofs.YtohlccmebhfdaaaDoor
/- THE CELL 'sum', in the pinned program and in every row, IS THE sha256 OF THE DUMP (.gsa) THAT YtohlccmebhfdaaaDoorProg.lean LOADS. Nothing in Lean hashes anything: it is a label: what it is worth is what the hold of that sum in a sandbox is worth. -/
noncomputable def Tryd.pinned : Pinned := { name := "ytohlccmebhfdaaadoor", sum := "c714ef6030c234a53cfc67e30067a458a096477be19f1edb4c288cba5f225f7f", checked := Tryd.checked }
namespace Rows
def none {H : Type} : Left H := { results := [], args := [] }

/- WHAT THE LISTED PACKAGE-LEVEL VARIABLES READ AS WHEN THE CALL BEGINS. Each datum BY PROGRAM (the guide's laid-datum.mjs) off the statement by which the dump's own 'gosem.cut.vars' lays the variable. In a bare row this is a premise. The card (YtohlccmebhfdaaaDoorCards.lean) ties it to the program's text. -/
def laid_unicode_utf8_acceptRanges {H : Type} : DataW H := .agg [.agg [.lit (.int .u8 128), .lit (.int .u8 191)], .agg [.lit (.int .u8 160), .lit (.int .u8 191)], .agg [.lit (.int .u8 128), .lit (.int .u8 159)], .agg [.lit (.int .u8 144), .lit (.int .u8 191)], .agg [.lit (.int .u8 128), .lit (.int .u8 143)], .agg [.lit (.int .u8 0), .lit (.int .u8 0)], .agg [.lit (.int .u8 0), .lit (.int .u8 0)], .agg [.lit (.int .u8 0), .lit (.int .u8 0)], .agg [.lit (.int .u8 0), .lit (.int .u8 0)], .agg [.lit (.int .u8 0), .lit (.int .u8 0)], .agg [.lit (.int .u8 0), .lit (.int .u8 0)], .agg [.lit (.int .u8 0), .lit (.int .u8 0)], .agg [.lit (.int .u8 0), .lit (.int .u8 0)], .agg [.lit (.int .u8 0), .lit (.int .u8 0)], .agg [.lit (.int .u8 0), .lit (.int .u8 0)], .agg [.lit (.int .u8 0), .lit (.int .u8 0)]]
/-- One of Go's own tables, pinned by name: the form's constant. -/
def laid_unicode_utf8_first : DataW Unit := Go.Pinned.utf8First

/-- 'laws.FnExactFacesOf': WHATEVER THE INPUT: true; the input reads as it did. -/
def fnExactFacesOfSpec : ChangeSpec := { name := "fnExactFacesOf", fn := fun _ => fun
  | [d] => { results := [.lit (.bool true)], args := [d] }
  | _ => none }
def fnExactFacesOfRow : OpenClaim := { program := "ytohlccmebhfdaaadoor", sum := "c714ef6030c234a53cfc67e30067a458a096477be19f1edb4c288cba5f225f7f", func := "loop.example/g03208/laws.FnExactFacesOf", spec := "fnExactFacesOf", inPlace := ["internal/bytealg.IndexByteString", "internal/bytealg.IndexString"], named := ["unicode/utf8.first", "unicode/utf8.acceptRanges", "internal/bytealg.MaxLen"], apart := false, laid := [("unicode/utf8.acceptRanges", laid_unicode_utf8_acceptRanges), ("unicode/utf8.first", laid_unicode_utf8_first)] }
def FnExactFacesOfSaid : Prop := fnExactFacesOfRow.holds Tryd.pinned (OpenSpec.ofChange fnExactFacesOfSpec)

/-- ITS FALSE NEIGHBOUR: 'it returns false'. Refute it at one input. -/
def fnExactFacesOfWrong : ChangeSpec := { name := "fnExactFacesOf", fn := fun _ => fun
  | [d] => { results := [.lit (.bool false)], args := [d] }
  | _ => none }
def FnExactFacesOfWrongFalsely : Prop := fnExactFacesOfRow.holds Tryd.pinned (OpenSpec.ofChange fnExactFacesOfWrong)

/-- 'laws.FnExactCreasesOf': WHATEVER THE INPUT: true; the input reads as it did. -/
def fnExactCreasesOfSpec : ChangeSpec := { name := "fnExactCreasesOf", fn := fun _ => fun
  | [d] => { results := [.lit (.bool true)], args := [d] }
  | _ => none }
def fnExactCreasesOfRow : OpenClaim := { program := "ytohlccmebhfdaaadoor", sum := "c714ef6030c234a53cfc67e30067a458a096477be19f1edb4c288cba5f225f7f", func := "loop.example/g03208/laws.FnExactCreasesOf", spec := "fnExactCreasesOf", inPlace := ["internal/bytealg.IndexByteString", "internal/bytealg.IndexString"], named := ["unicode/utf8.first", "unicode/utf8.acceptRanges", "internal/bytealg.MaxLen"], apart := false, laid := [("unicode/utf8.acceptRanges", laid_unicode_utf8_acceptRanges), ("unicode/utf8.first", laid_unicode_utf8_first)] }
def FnExactCreasesOfSaid : Prop := fnExactCreasesOfRow.holds Tryd.pinned (OpenSpec.ofChange fnExactCreasesOfSpec)

/-- ITS FALSE NEIGHBOUR: 'it returns false'. Refute it at one input. -/
def fnExactCreasesOfWrong : ChangeSpec := { name := "fnExactCreasesOf", fn := fun _ => fun
  | [d] => { results := [.lit (.bool false)], args := [d] }
  | _ => none }
def FnExactCreasesOfWrongFalsely : Prop := fnExactCreasesOfRow.holds Tryd.pinned (OpenSpec.ofChange fnExactCreasesOfWrong)

/-- 'laws.FnExactTopUnit': WHATEVER THE INPUT: true; the input reads as it did. -/
def fnExactTopUnitSpec : ChangeSpec := { name := "fnExactTopUnit", fn := fun _ => fun
  | [d] => { results := [.lit (.bool true)], args := [d] }
  | _ => none }
def fnExactTopUnitRow : OpenClaim := { program := "ytohlccmebhfdaaadoor", sum := "c714ef6030c234a53cfc67e30067a458a096477be19f1edb4c288cba5f225f7f", func := "loop.example/g03208/laws.FnExactTopUnit", spec := "fnExactTopUnit", inPlace := ["internal/bytealg.IndexByteString", "internal/bytealg.IndexString"], named := ["unicode/utf8.first", "unicode/utf8.acceptRanges", "internal/bytealg.MaxLen"], apart := false, laid := [("unicode/utf8.acceptRanges", laid_unicode_utf8_acceptRanges), ("unicode/utf8.first", laid_unicode_utf8_first)] }
def FnExactTopUnitSaid : Prop := fnExactTopUnitRow.holds Tryd.pinned (OpenSpec.ofChange fnExactTopUnitSpec)

/-- ITS FALSE NEIGHBOUR: 'it returns false'. Refute it at one input. -/
def fnExactTopUnitWrong : ChangeSpec := { name := "fnExactTopUnit", fn := fun _ => fun
  | [d] => { results := [.lit (.bool false)], args := [d] }
  | _ => none }
def FnExactTopUnitWrongFalsely : Prop := fnExactTopUnitRow.holds Tryd.pinned (OpenSpec.ofChange fnExactTopUnitWrong)

/-- 'laws.FnExactFoldOrder': WHATEVER THE INPUT: true; the input reads as it did. -/
def fnExactFoldOrderSpec : ChangeSpec := { name := "fnExactFoldOrder", fn := fun _ => fun
  | [d] => { results := [.lit (.bool true)], args := [d] }
  | _ => none }
def fnExactFoldOrderRow : OpenClaim := { program := "ytohlccmebhfdaaadoor", sum := "c714ef6030c234a53cfc67e30067a458a096477be19f1edb4c288cba5f225f7f", func := "loop.example/g03208/laws.FnExactFoldOrder", spec := "fnExactFoldOrder", inPlace := ["internal/bytealg.IndexByteString", "internal/bytealg.IndexString"], named := ["unicode/utf8.first", "unicode/utf8.acceptRanges", "internal/bytealg.MaxLen"], apart := false, laid := [("unicode/utf8.acceptRanges", laid_unicode_utf8_acceptRanges), ("unicode/utf8.first", laid_unicode_utf8_first)] }
def FnExactFoldOrderSaid : Prop := fnExactFoldOrderRow.holds Tryd.pinned (OpenSpec.ofChange fnExactFoldOrderSpec)

/-- ITS FALSE NEIGHBOUR: 'it returns false'. Refute it at one input. -/
def fnExactFoldOrderWrong : ChangeSpec := { name := "fnExactFoldOrder", fn := fun _ => fun
  | [d] => { results := [.lit (.bool false)], args := [d] }
  | _ => none }
def FnExactFoldOrderWrongFalsely : Prop := fnExactFoldOrderRow.holds Tryd.pinned (OpenSpec.ofChange fnExactFoldOrderWrong)

/- THE SECOND FORM. 'bulk': how many values and letters a reading holds, each counted each time it is reached (what is shared counts as often as it is met; a slice's spare places count too). A statement '..UptoSaid' is the law's where the arguments, and the package variables that the reading takes, are together of bulk at most 1048576: NARROWER than '..Said'. Prove '..Said' where nothing that the law and all that it calls make is longer than what came in: it says more and counts as full. Else prove '..UptoSaid'. A law counts once. -/
mutual
def uptoBulk {H : Type} : DataW H → Nat
  | .lit (.string bytes) => bytes.length + 1
  | .lit _ => 1
  | .nil => 1
  | .ptr d => uptoBulk d + 1
  | .slice elems spare => uptoBulkAll elems + uptoBulkAll spare + 1
  | .agg parts => uptoBulkAll parts + 1
  | .iface _ d => uptoBulk d + 1
  | .map entries => uptoBulkEntries entries + 1
  | .held _ => 1
def uptoBulkAll {H : Type} : List (DataW H) → Nat
  | [] => 0
  | d :: r => uptoBulk d + uptoBulkAll r
def uptoBulkEntries {H : Type} : List (Lit × DataW H) → Nat
  | [] => 0
  | x :: r => uptoBulkEntry x + uptoBulkEntries r
def uptoBulkEntry {H : Type} : Lit × DataW H → Nat
  | (.string bytes, d) => bytes.length + uptoBulk d + 1
  | (_, d) => uptoBulk d + 1
 end
def uptoSmall : (H : Type) → List (DataW H) → Bool := fun _ ds => decide (uptoBulkAll ds ≤ 1048576)
def OpenSpec.upto (s : _root_.Go.ChangeSpec) : _root_.Go.OpenSpec := { _root_.Go.OpenSpec.ofChange s with cond := some uptoSmall }

/-- 'laws.FnExactFacesOf', WHERE WHAT IT READS IS OF BULK AT MOST 1048576: true; the input reads as it did. -/
def fnExactFacesOfUptoRow : OpenClaim := { program := "ytohlccmebhfdaaadoor", sum := "c714ef6030c234a53cfc67e30067a458a096477be19f1edb4c288cba5f225f7f", func := "loop.example/g03208/laws.FnExactFacesOf", spec := "fnExactFacesOf", inPlace := ["internal/bytealg.IndexByteString", "internal/bytealg.IndexString"], named := ["unicode/utf8.first", "unicode/utf8.acceptRanges", "internal/bytealg.MaxLen"], apart := false, laid := [("unicode/utf8.acceptRanges", laid_unicode_utf8_acceptRanges), ("unicode/utf8.first", laid_unicode_utf8_first)], narrowed := true }
def FnExactFacesOfUptoSaid : Prop := fnExactFacesOfUptoRow.holds Tryd.pinned (OpenSpec.upto fnExactFacesOfSpec)

/-- 'laws.FnExactCreasesOf', WHERE WHAT IT READS IS OF BULK AT MOST 1048576: true; the input reads as it did. -/
def fnExactCreasesOfUptoRow : OpenClaim := { program := "ytohlccmebhfdaaadoor", sum := "c714ef6030c234a53cfc67e30067a458a096477be19f1edb4c288cba5f225f7f", func := "loop.example/g03208/laws.FnExactCreasesOf", spec := "fnExactCreasesOf", inPlace := ["internal/bytealg.IndexByteString", "internal/bytealg.IndexString"], named := ["unicode/utf8.first", "unicode/utf8.acceptRanges", "internal/bytealg.MaxLen"], apart := false, laid := [("unicode/utf8.acceptRanges", laid_unicode_utf8_acceptRanges), ("unicode/utf8.first", laid_unicode_utf8_first)], narrowed := true }
def FnExactCreasesOfUptoSaid : Prop := fnExactCreasesOfUptoRow.holds Tryd.pinned (OpenSpec.upto fnExactCreasesOfSpec)

/-- 'laws.FnExactTopUnit', WHERE WHAT IT READS IS OF BULK AT MOST 1048576: true; the input reads as it did. -/
def fnExactTopUnitUptoRow : OpenClaim := { program := "ytohlccmebhfdaaadoor", sum := "c714ef6030c234a53cfc67e30067a458a096477be19f1edb4c288cba5f225f7f", func := "loop.example/g03208/laws.FnExactTopUnit", spec := "fnExactTopUnit", inPlace := ["internal/bytealg.IndexByteString", "internal/bytealg.IndexString"], named := ["unicode/utf8.first", "unicode/utf8.acceptRanges", "internal/bytealg.MaxLen"], apart := false, laid := [("unicode/utf8.acceptRanges", laid_unicode_utf8_acceptRanges), ("unicode/utf8.first", laid_unicode_utf8_first)], narrowed := true }
def FnExactTopUnitUptoSaid : Prop := fnExactTopUnitUptoRow.holds Tryd.pinned (OpenSpec.upto fnExactTopUnitSpec)

/-- 'laws.FnExactFoldOrder', WHERE WHAT IT READS IS OF BULK AT MOST 1048576: true; the input reads as it did. -/
def fnExactFoldOrderUptoRow : OpenClaim := { program := "ytohlccmebhfdaaadoor", sum := "c714ef6030c234a53cfc67e30067a458a096477be19f1edb4c288cba5f225f7f", func := "loop.example/g03208/laws.FnExactFoldOrder", spec := "fnExactFoldOrder", inPlace := ["internal/bytealg.IndexByteString", "internal/bytealg.IndexString"], named := ["unicode/utf8.first", "unicode/utf8.acceptRanges", "internal/bytealg.MaxLen"], apart := false, laid := [("unicode/utf8.acceptRanges", laid_unicode_utf8_acceptRanges), ("unicode/utf8.first", laid_unicode_utf8_first)], narrowed := true }
def FnExactFoldOrderUptoSaid : Prop := fnExactFoldOrderUptoRow.holds Tryd.pinned (OpenSpec.upto fnExactFoldOrderSpec)

end Rows
end Go.Proofs.YtohlccmebhfdaaaDoor
