/-
  DERIVED. GIVEN WITH THE SEED: THE CARDS: each row of YtnblohjdhbadcaaDoorRows.lean that lists a variable, with what it lists TIED to the program's text (the seventh form; the later family's looks); each row that meets fmt, with fmt's text TOLD by the authors' own Lean function (tested against real Go, not proved from fmt's source: count such statements apart). THE CARD IS WHAT COUNTS. Prove the row's statement (the work); the ties are given (YtnblohjdhbadcaaDoorTie.lean); close each card by the builder's one call (the guide's Derived/Test/ToyasCard.lean, 'card_holds'). Laid BY PROGRAM, IN A SANDBOX (cutbox-door.mjs). By AI agents, Wed Nov 11 2026. No macro, syntax, notation, axiom, sorry.
-/
import Derived.Test.YtnblohjdhbadcaaDoorRows
import GoSem.ClaimSeven
namespace Go.Proofs.YtnblohjdhbadcaaDoor
namespace Rows

/-- THE TIED CARD OF 'laws.FnExactFoldWordOk'. -/
def fnExactFoldWordOkCard : Claim7 := { stood := { row := fnExactFoldWordOkRow, standIns := [], harness := (true, "d5886a9fb042f76a578c9c6594defb1cd3f8a1ccf81ba8206df1990c808f925e"), looks := true }, kinds := [], alts := [], laidByText := true, laidKinds := [.data, .pinned], laidTests := true, laidLooks := .later }
def FnExactFoldWordOkCardSaid : Prop := Claim7.holds Tryd.pinned (.plain (OpenSpec.ofChange fnExactFoldWordOkSpec)) fnExactFoldWordOkCard

/-- THE TIED CARD OF 'laws.FnExactUnitsOf'. -/
def fnExactUnitsOfCard : Claim7 := { stood := { row := fnExactUnitsOfRow, standIns := [], harness := (true, "d5886a9fb042f76a578c9c6594defb1cd3f8a1ccf81ba8206df1990c808f925e"), looks := true }, kinds := [], alts := [], laidByText := true, laidKinds := [.data, .pinned], laidTests := true, laidLooks := .later }
def FnExactUnitsOfCardSaid : Prop := Claim7.holds Tryd.pinned (.plain (OpenSpec.ofChange fnExactUnitsOfSpec)) fnExactUnitsOfCard

/-- THE TIED CARD OF 'laws.FnExactPiecesAfter'. -/
def fnExactPiecesAfterCard : Claim7 := { stood := { row := fnExactPiecesAfterRow, standIns := [], harness := (true, "d5886a9fb042f76a578c9c6594defb1cd3f8a1ccf81ba8206df1990c808f925e"), looks := true }, kinds := [], alts := [], laidByText := true, laidKinds := [.data, .pinned], laidTests := true, laidLooks := .later }
def FnExactPiecesAfterCardSaid : Prop := Claim7.holds Tryd.pinned (.plain (OpenSpec.ofChange fnExactPiecesAfterSpec)) fnExactPiecesAfterCard

/-- THE TIED CARD OF 'laws.FnExactFacesOf'. -/
def fnExactFacesOfCard : Claim7 := { stood := { row := fnExactFacesOfRow, standIns := [], harness := (true, "d5886a9fb042f76a578c9c6594defb1cd3f8a1ccf81ba8206df1990c808f925e"), looks := true }, kinds := [], alts := [], laidByText := true, laidKinds := [.data, .pinned], laidTests := true, laidLooks := .later }
def FnExactFacesOfCardSaid : Prop := Claim7.holds Tryd.pinned (.plain (OpenSpec.ofChange fnExactFacesOfSpec)) fnExactFacesOfCard

/-- THE TIED CARD OF 'laws.FnExactCreasesOf'. -/
def fnExactCreasesOfCard : Claim7 := { stood := { row := fnExactCreasesOfRow, standIns := [], harness := (true, "d5886a9fb042f76a578c9c6594defb1cd3f8a1ccf81ba8206df1990c808f925e"), looks := true }, kinds := [], alts := [], laidByText := true, laidKinds := [.data, .pinned], laidTests := true, laidLooks := .later }
def FnExactCreasesOfCardSaid : Prop := Claim7.holds Tryd.pinned (.plain (OpenSpec.ofChange fnExactCreasesOfSpec)) fnExactCreasesOfCard

/-- THE TIED CARD OF 'laws.FnExactTopUnit'. -/
def fnExactTopUnitCard : Claim7 := { stood := { row := fnExactTopUnitRow, standIns := [], harness := (true, "d5886a9fb042f76a578c9c6594defb1cd3f8a1ccf81ba8206df1990c808f925e"), looks := true }, kinds := [], alts := [], laidByText := true, laidKinds := [.data, .pinned], laidTests := true, laidLooks := .later }
def FnExactTopUnitCardSaid : Prop := Claim7.holds Tryd.pinned (.plain (OpenSpec.ofChange fnExactTopUnitSpec)) fnExactTopUnitCard

/-- THE TIED CARD OF 'laws.FnExactFoldOrder'. -/
def fnExactFoldOrderCard : Claim7 := { stood := { row := fnExactFoldOrderRow, standIns := [], harness := (true, "d5886a9fb042f76a578c9c6594defb1cd3f8a1ccf81ba8206df1990c808f925e"), looks := true }, kinds := [], alts := [], laidByText := true, laidKinds := [.data, .pinned], laidTests := true, laidLooks := .later }
def FnExactFoldOrderCardSaid : Prop := Claim7.holds Tryd.pinned (.plain (OpenSpec.ofChange fnExactFoldOrderSpec)) fnExactFoldOrderCard

/-- THE TIED CARD OF 'laws.FnExactMirrorWord'. -/
def fnExactMirrorWordCard : Claim7 := { stood := { row := fnExactMirrorWordRow, standIns := [], harness := (true, "d5886a9fb042f76a578c9c6594defb1cd3f8a1ccf81ba8206df1990c808f925e"), looks := true }, kinds := [], alts := [], laidByText := true, laidKinds := [.data, .pinned], laidTests := true, laidLooks := .later }
def FnExactMirrorWordCardSaid : Prop := Claim7.holds Tryd.pinned (.plain (OpenSpec.ofChange fnExactMirrorWordSpec)) fnExactMirrorWordCard

/-- THE SECOND FORM's CARD OF 'laws.FnExactFoldWordOk'. -/
def fnExactFoldWordOkUptoCard : Claim7 := { stood := { row := fnExactFoldWordOkUptoRow, standIns := [], harness := (true, "d5886a9fb042f76a578c9c6594defb1cd3f8a1ccf81ba8206df1990c808f925e"), looks := true }, kinds := [], alts := [], laidByText := true, laidKinds := [.data, .pinned], laidTests := true, laidLooks := .later }
def FnExactFoldWordOkUptoCardSaid : Prop := Claim7.holds Tryd.pinned (.plain (OpenSpec.upto fnExactFoldWordOkSpec)) fnExactFoldWordOkUptoCard

/-- THE SECOND FORM's CARD OF 'laws.FnExactUnitsOf'. -/
def fnExactUnitsOfUptoCard : Claim7 := { stood := { row := fnExactUnitsOfUptoRow, standIns := [], harness := (true, "d5886a9fb042f76a578c9c6594defb1cd3f8a1ccf81ba8206df1990c808f925e"), looks := true }, kinds := [], alts := [], laidByText := true, laidKinds := [.data, .pinned], laidTests := true, laidLooks := .later }
def FnExactUnitsOfUptoCardSaid : Prop := Claim7.holds Tryd.pinned (.plain (OpenSpec.upto fnExactUnitsOfSpec)) fnExactUnitsOfUptoCard

/-- THE SECOND FORM's CARD OF 'laws.FnExactPiecesAfter'. -/
def fnExactPiecesAfterUptoCard : Claim7 := { stood := { row := fnExactPiecesAfterUptoRow, standIns := [], harness := (true, "d5886a9fb042f76a578c9c6594defb1cd3f8a1ccf81ba8206df1990c808f925e"), looks := true }, kinds := [], alts := [], laidByText := true, laidKinds := [.data, .pinned], laidTests := true, laidLooks := .later }
def FnExactPiecesAfterUptoCardSaid : Prop := Claim7.holds Tryd.pinned (.plain (OpenSpec.upto fnExactPiecesAfterSpec)) fnExactPiecesAfterUptoCard

/-- THE SECOND FORM's CARD OF 'laws.FnExactFacesOf'. -/
def fnExactFacesOfUptoCard : Claim7 := { stood := { row := fnExactFacesOfUptoRow, standIns := [], harness := (true, "d5886a9fb042f76a578c9c6594defb1cd3f8a1ccf81ba8206df1990c808f925e"), looks := true }, kinds := [], alts := [], laidByText := true, laidKinds := [.data, .pinned], laidTests := true, laidLooks := .later }
def FnExactFacesOfUptoCardSaid : Prop := Claim7.holds Tryd.pinned (.plain (OpenSpec.upto fnExactFacesOfSpec)) fnExactFacesOfUptoCard

/-- THE SECOND FORM's CARD OF 'laws.FnExactCreasesOf'. -/
def fnExactCreasesOfUptoCard : Claim7 := { stood := { row := fnExactCreasesOfUptoRow, standIns := [], harness := (true, "d5886a9fb042f76a578c9c6594defb1cd3f8a1ccf81ba8206df1990c808f925e"), looks := true }, kinds := [], alts := [], laidByText := true, laidKinds := [.data, .pinned], laidTests := true, laidLooks := .later }
def FnExactCreasesOfUptoCardSaid : Prop := Claim7.holds Tryd.pinned (.plain (OpenSpec.upto fnExactCreasesOfSpec)) fnExactCreasesOfUptoCard

/-- THE SECOND FORM's CARD OF 'laws.FnExactTopUnit'. -/
def fnExactTopUnitUptoCard : Claim7 := { stood := { row := fnExactTopUnitUptoRow, standIns := [], harness := (true, "d5886a9fb042f76a578c9c6594defb1cd3f8a1ccf81ba8206df1990c808f925e"), looks := true }, kinds := [], alts := [], laidByText := true, laidKinds := [.data, .pinned], laidTests := true, laidLooks := .later }
def FnExactTopUnitUptoCardSaid : Prop := Claim7.holds Tryd.pinned (.plain (OpenSpec.upto fnExactTopUnitSpec)) fnExactTopUnitUptoCard

/-- THE SECOND FORM's CARD OF 'laws.FnExactFoldOrder'. -/
def fnExactFoldOrderUptoCard : Claim7 := { stood := { row := fnExactFoldOrderUptoRow, standIns := [], harness := (true, "d5886a9fb042f76a578c9c6594defb1cd3f8a1ccf81ba8206df1990c808f925e"), looks := true }, kinds := [], alts := [], laidByText := true, laidKinds := [.data, .pinned], laidTests := true, laidLooks := .later }
def FnExactFoldOrderUptoCardSaid : Prop := Claim7.holds Tryd.pinned (.plain (OpenSpec.upto fnExactFoldOrderSpec)) fnExactFoldOrderUptoCard

/-- THE SECOND FORM's CARD OF 'laws.FnExactMirrorWord'. -/
def fnExactMirrorWordUptoCard : Claim7 := { stood := { row := fnExactMirrorWordUptoRow, standIns := [], harness := (true, "d5886a9fb042f76a578c9c6594defb1cd3f8a1ccf81ba8206df1990c808f925e"), looks := true }, kinds := [], alts := [], laidByText := true, laidKinds := [.data, .pinned], laidTests := true, laidLooks := .later }
def FnExactMirrorWordUptoCardSaid : Prop := Claim7.holds Tryd.pinned (.plain (OpenSpec.upto fnExactMirrorWordSpec)) fnExactMirrorWordUptoCard
end Rows
end Go.Proofs.YtnblohjdhbadcaaDoor
