/-
  DERIVED. GIVEN WITH THE SEED: THE CARDS: each row of YtohlccmebhfdaaaDoorRows.lean that lists a variable, with what it lists TIED to the program's text (the seventh form; the later family's looks); each row that meets fmt, with fmt's text TOLD by the authors' own Lean function (tested against real Go, not proved from fmt's source: count such statements apart). THE CARD IS WHAT COUNTS. Prove the row's statement (the work); the ties are given (YtohlccmebhfdaaaDoorTie.lean); close each card by the builder's one call (the guide's Derived/Test/ToyasCard.lean, 'card_holds'). Laid BY PROGRAM, IN A SANDBOX (cutbox-door.mjs). By AI agents, Wed Nov 11 2026. No macro, syntax, notation, axiom, sorry.
-/
import Derived.Test.YtohlccmebhfdaaaDoorRows
import GoSem.ClaimSeven
namespace Go.Proofs.YtohlccmebhfdaaaDoor
namespace Rows

/-- THE TIED CARD OF 'laws.FnExactFacesOf'. -/
def fnExactFacesOfCard : Claim7 := { stood := { row := fnExactFacesOfRow, standIns := [], harness := (true, "e7e34097112e47142688bfe911a97f6e8715dad3394941402857415527624f3a"), looks := false }, kinds := [], alts := [], laidByText := true, laidKinds := [.data, .pinned], laidTests := true, laidLooks := .later }
def FnExactFacesOfCardSaid : Prop := Claim7.holds Tryd.pinned (.plain (OpenSpec.ofChange fnExactFacesOfSpec)) fnExactFacesOfCard

/-- THE TIED CARD OF 'laws.FnExactCreasesOf'. -/
def fnExactCreasesOfCard : Claim7 := { stood := { row := fnExactCreasesOfRow, standIns := [], harness := (true, "e7e34097112e47142688bfe911a97f6e8715dad3394941402857415527624f3a"), looks := false }, kinds := [], alts := [], laidByText := true, laidKinds := [.data, .pinned], laidTests := true, laidLooks := .later }
def FnExactCreasesOfCardSaid : Prop := Claim7.holds Tryd.pinned (.plain (OpenSpec.ofChange fnExactCreasesOfSpec)) fnExactCreasesOfCard

/-- THE TIED CARD OF 'laws.FnExactTopUnit'. -/
def fnExactTopUnitCard : Claim7 := { stood := { row := fnExactTopUnitRow, standIns := [], harness := (true, "e7e34097112e47142688bfe911a97f6e8715dad3394941402857415527624f3a"), looks := false }, kinds := [], alts := [], laidByText := true, laidKinds := [.data, .pinned], laidTests := true, laidLooks := .later }
def FnExactTopUnitCardSaid : Prop := Claim7.holds Tryd.pinned (.plain (OpenSpec.ofChange fnExactTopUnitSpec)) fnExactTopUnitCard

/-- THE TIED CARD OF 'laws.FnExactFoldOrder'. -/
def fnExactFoldOrderCard : Claim7 := { stood := { row := fnExactFoldOrderRow, standIns := [], harness := (true, "e7e34097112e47142688bfe911a97f6e8715dad3394941402857415527624f3a"), looks := false }, kinds := [], alts := [], laidByText := true, laidKinds := [.data, .pinned], laidTests := true, laidLooks := .later }
def FnExactFoldOrderCardSaid : Prop := Claim7.holds Tryd.pinned (.plain (OpenSpec.ofChange fnExactFoldOrderSpec)) fnExactFoldOrderCard

/-- THE SECOND FORM's CARD OF 'laws.FnExactFacesOf'. -/
def fnExactFacesOfUptoCard : Claim7 := { stood := { row := fnExactFacesOfUptoRow, standIns := [], harness := (true, "e7e34097112e47142688bfe911a97f6e8715dad3394941402857415527624f3a"), looks := false }, kinds := [], alts := [], laidByText := true, laidKinds := [.data, .pinned], laidTests := true, laidLooks := .later }
def FnExactFacesOfUptoCardSaid : Prop := Claim7.holds Tryd.pinned (.plain (OpenSpec.upto fnExactFacesOfSpec)) fnExactFacesOfUptoCard

/-- THE SECOND FORM's CARD OF 'laws.FnExactCreasesOf'. -/
def fnExactCreasesOfUptoCard : Claim7 := { stood := { row := fnExactCreasesOfUptoRow, standIns := [], harness := (true, "e7e34097112e47142688bfe911a97f6e8715dad3394941402857415527624f3a"), looks := false }, kinds := [], alts := [], laidByText := true, laidKinds := [.data, .pinned], laidTests := true, laidLooks := .later }
def FnExactCreasesOfUptoCardSaid : Prop := Claim7.holds Tryd.pinned (.plain (OpenSpec.upto fnExactCreasesOfSpec)) fnExactCreasesOfUptoCard

/-- THE SECOND FORM's CARD OF 'laws.FnExactTopUnit'. -/
def fnExactTopUnitUptoCard : Claim7 := { stood := { row := fnExactTopUnitUptoRow, standIns := [], harness := (true, "e7e34097112e47142688bfe911a97f6e8715dad3394941402857415527624f3a"), looks := false }, kinds := [], alts := [], laidByText := true, laidKinds := [.data, .pinned], laidTests := true, laidLooks := .later }
def FnExactTopUnitUptoCardSaid : Prop := Claim7.holds Tryd.pinned (.plain (OpenSpec.upto fnExactTopUnitSpec)) fnExactTopUnitUptoCard

/-- THE SECOND FORM's CARD OF 'laws.FnExactFoldOrder'. -/
def fnExactFoldOrderUptoCard : Claim7 := { stood := { row := fnExactFoldOrderUptoRow, standIns := [], harness := (true, "e7e34097112e47142688bfe911a97f6e8715dad3394941402857415527624f3a"), looks := false }, kinds := [], alts := [], laidByText := true, laidKinds := [.data, .pinned], laidTests := true, laidLooks := .later }
def FnExactFoldOrderUptoCardSaid : Prop := Claim7.holds Tryd.pinned (.plain (OpenSpec.upto fnExactFoldOrderSpec)) fnExactFoldOrderUptoCard
end Rows
end Go.Proofs.YtohlccmebhfdaaaDoor
