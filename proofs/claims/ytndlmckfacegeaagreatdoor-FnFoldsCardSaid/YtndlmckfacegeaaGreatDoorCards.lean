/-
  DERIVED. GIVEN WITH THE SEED: THE CARDS: each row of YtndlmckfacegeaaGreatDoorRows.lean that lists a variable, with what it lists TIED to the program's text (the seventh form; the later family's looks); each row that meets fmt, with fmt's text TOLD by the authors' own Lean function (tested against real Go, not proved from fmt's source: count such statements apart). THE CARD IS WHAT COUNTS. Prove the row's statement (the work); the ties are given (YtndlmckfacegeaaGreatDoorTie.lean); close each card by the builder's one call (the guide's Derived/Test/ToyasCard.lean, 'card_holds'). Laid BY PROGRAM, IN A SANDBOX (cutbox-door.mjs). By AI agents, Wed Nov 11 2026. No macro, syntax, notation, axiom, sorry.
-/
import Derived.Test.YtndlmckfacegeaaGreatDoorRows
import GoSem.ClaimSeven
namespace Go.Proofs.YtndlmckfacegeaaGreatDoor
namespace Rows

/-- THE TIED CARD OF 'laws.FnFolds'. -/
def fnFoldsCard : Claim7 := { stood := { row := fnFoldsRow, standIns := [], harness := (true, "3a1c114e155fd70a1d7dc4252a86996fcad4586d818bcc35d64d55bfbac59016"), looks := true }, kinds := [], alts := [], laidByText := true, laidKinds := [.data, .pinned], laidTests := true, laidLooks := .later }
def FnFoldsCardSaid : Prop := Claim7.holds Tryz.pinned (.plain (OpenSpec.ofChange fnFoldsSpec)) fnFoldsCard

/-- THE SECOND FORM's CARD OF 'laws.FnFolds'. -/
def fnFoldsUptoCard : Claim7 := { stood := { row := fnFoldsUptoRow, standIns := [], harness := (true, "3a1c114e155fd70a1d7dc4252a86996fcad4586d818bcc35d64d55bfbac59016"), looks := true }, kinds := [], alts := [], laidByText := true, laidKinds := [.data, .pinned], laidTests := true, laidLooks := .later }
def FnFoldsUptoCardSaid : Prop := Claim7.holds Tryz.pinned (.plain (OpenSpec.upto fnFoldsSpec)) fnFoldsUptoCard
end Rows
end Go.Proofs.YtndlmckfacegeaaGreatDoor
