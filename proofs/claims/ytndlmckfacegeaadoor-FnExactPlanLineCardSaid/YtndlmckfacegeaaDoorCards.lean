/-
  DERIVED. GIVEN WITH THE SEED: THE CARDS: each row of YtndlmckfacegeaaDoorRows.lean that lists a variable, with what it lists TIED to the program's text (the seventh form; the later family's looks); each row that meets fmt, with fmt's text TOLD by the authors' own Lean function (tested against real Go, not proved from fmt's source: count such statements apart). THE CARD IS WHAT COUNTS. Prove the row's statement (the work); the ties are given (YtndlmckfacegeaaDoorTie.lean); close each card by the builder's one call (the guide's Derived/Test/ToyasCard.lean, 'card_holds'). Laid BY PROGRAM, IN A SANDBOX (cutbox-door.mjs). By AI agents, Wed Nov 11 2026. No macro, syntax, notation, axiom, sorry.
-/
import Derived.Test.YtndlmckfacegeaaDoorRows
import GoSem.ClaimSeven
namespace Go.Proofs.YtndlmckfacegeaaDoor
namespace Rows

/-- THE TIED CARD OF 'laws.FnExactPlanLine'. -/
def fnExactPlanLineCard : Claim7 := { stood := { row := fnExactPlanLineRow, standIns := [], harness := (true, "6edc7f8a0dc440e65c59fd603b027478e42ac55b2b610bf5debbea7c5f6986fc"), looks := true }, kinds := [], alts := [], laidByText := true, laidKinds := [.data, .data, .data], laidTests := true, laidLooks := .later }
def FnExactPlanLineCardSaid : Prop := Claim7.holds Tryd.pinned (.plain (OpenSpec.ofChange fnExactPlanLineSpec)) fnExactPlanLineCard

/-- THE TIED CARD OF 'laws.FnExactSquareLine'. -/
def fnExactSquareLineCard : Claim7 := { stood := { row := fnExactSquareLineRow, standIns := [], harness := (true, "6edc7f8a0dc440e65c59fd603b027478e42ac55b2b610bf5debbea7c5f6986fc"), looks := true }, kinds := [], alts := [], laidByText := true, laidKinds := [.data, .data, .data], laidTests := true, laidLooks := .later }
def FnExactSquareLineCardSaid : Prop := Claim7.holds Tryd.pinned (.plain (OpenSpec.ofChange fnExactSquareLineSpec)) fnExactSquareLineCard

/-- THE TIED CARD OF 'laws.FnExactBarLine'. -/
def fnExactBarLineCard : Claim7 := { stood := { row := fnExactBarLineRow, standIns := [], harness := (true, "6edc7f8a0dc440e65c59fd603b027478e42ac55b2b610bf5debbea7c5f6986fc"), looks := true }, kinds := [], alts := [], laidByText := true, laidKinds := [.data, .data, .data], laidTests := true, laidLooks := .later }
def FnExactBarLineCardSaid : Prop := Claim7.holds Tryd.pinned (.plain (OpenSpec.ofChange fnExactBarLineSpec)) fnExactBarLineCard

/-- THE TIED CARD OF 'laws.FnExactMirrorWord'. -/
def fnExactMirrorWordCard : Claim7 := { stood := { row := fnExactMirrorWordRow, standIns := [], harness := (true, "6edc7f8a0dc440e65c59fd603b027478e42ac55b2b610bf5debbea7c5f6986fc"), looks := true }, kinds := [], alts := [], laidByText := true, laidKinds := [.data, .pinned], laidTests := true, laidLooks := .later }
def FnExactMirrorWordCardSaid : Prop := Claim7.holds Tryd.pinned (.plain (OpenSpec.ofChange fnExactMirrorWordSpec)) fnExactMirrorWordCard

/-- THE TIED CARD OF 'laws.FnExactMeasureLine'. -/
def fnExactMeasureLineCard : Claim7 := { stood := { row := fnExactMeasureLineRow, standIns := [], harness := (true, "6edc7f8a0dc440e65c59fd603b027478e42ac55b2b610bf5debbea7c5f6986fc"), looks := true }, kinds := [], alts := [], laidByText := true, laidKinds := [.data, .data, .data], laidTests := true, laidLooks := .later }
def FnExactMeasureLineCardSaid : Prop := Claim7.holds Tryd.pinned (.plain (OpenSpec.ofChange fnExactMeasureLineSpec)) fnExactMeasureLineCard

/-- THE TIED CARD OF 'laws.FnExactTriangleLine'. -/
def fnExactTriangleLineCard : Claim7 := { stood := { row := fnExactTriangleLineRow, standIns := [], harness := (true, "6edc7f8a0dc440e65c59fd603b027478e42ac55b2b610bf5debbea7c5f6986fc"), looks := true }, kinds := [], alts := [], laidByText := true, laidKinds := [.data, .data, .data], laidTests := true, laidLooks := .later }
def FnExactTriangleLineCardSaid : Prop := Claim7.holds Tryd.pinned (.plain (OpenSpec.ofChange fnExactTriangleLineSpec)) fnExactTriangleLineCard

/-- THE SECOND FORM's CARD OF 'laws.FnExactPlanLine'. -/
def fnExactPlanLineUptoCard : Claim7 := { stood := { row := fnExactPlanLineUptoRow, standIns := [], harness := (true, "6edc7f8a0dc440e65c59fd603b027478e42ac55b2b610bf5debbea7c5f6986fc"), looks := true }, kinds := [], alts := [], laidByText := true, laidKinds := [.data, .data, .data], laidTests := true, laidLooks := .later }
def FnExactPlanLineUptoCardSaid : Prop := Claim7.holds Tryd.pinned (.plain (OpenSpec.upto fnExactPlanLineSpec)) fnExactPlanLineUptoCard

/-- THE SECOND FORM's CARD OF 'laws.FnExactSquareLine'. -/
def fnExactSquareLineUptoCard : Claim7 := { stood := { row := fnExactSquareLineUptoRow, standIns := [], harness := (true, "6edc7f8a0dc440e65c59fd603b027478e42ac55b2b610bf5debbea7c5f6986fc"), looks := true }, kinds := [], alts := [], laidByText := true, laidKinds := [.data, .data, .data], laidTests := true, laidLooks := .later }
def FnExactSquareLineUptoCardSaid : Prop := Claim7.holds Tryd.pinned (.plain (OpenSpec.upto fnExactSquareLineSpec)) fnExactSquareLineUptoCard

/-- THE SECOND FORM's CARD OF 'laws.FnExactBarLine'. -/
def fnExactBarLineUptoCard : Claim7 := { stood := { row := fnExactBarLineUptoRow, standIns := [], harness := (true, "6edc7f8a0dc440e65c59fd603b027478e42ac55b2b610bf5debbea7c5f6986fc"), looks := true }, kinds := [], alts := [], laidByText := true, laidKinds := [.data, .data, .data], laidTests := true, laidLooks := .later }
def FnExactBarLineUptoCardSaid : Prop := Claim7.holds Tryd.pinned (.plain (OpenSpec.upto fnExactBarLineSpec)) fnExactBarLineUptoCard

/-- THE SECOND FORM's CARD OF 'laws.FnExactMirrorWord'. -/
def fnExactMirrorWordUptoCard : Claim7 := { stood := { row := fnExactMirrorWordUptoRow, standIns := [], harness := (true, "6edc7f8a0dc440e65c59fd603b027478e42ac55b2b610bf5debbea7c5f6986fc"), looks := true }, kinds := [], alts := [], laidByText := true, laidKinds := [.data, .pinned], laidTests := true, laidLooks := .later }
def FnExactMirrorWordUptoCardSaid : Prop := Claim7.holds Tryd.pinned (.plain (OpenSpec.upto fnExactMirrorWordSpec)) fnExactMirrorWordUptoCard

/-- THE SECOND FORM's CARD OF 'laws.FnExactMeasureLine'. -/
def fnExactMeasureLineUptoCard : Claim7 := { stood := { row := fnExactMeasureLineUptoRow, standIns := [], harness := (true, "6edc7f8a0dc440e65c59fd603b027478e42ac55b2b610bf5debbea7c5f6986fc"), looks := true }, kinds := [], alts := [], laidByText := true, laidKinds := [.data, .data, .data], laidTests := true, laidLooks := .later }
def FnExactMeasureLineUptoCardSaid : Prop := Claim7.holds Tryd.pinned (.plain (OpenSpec.upto fnExactMeasureLineSpec)) fnExactMeasureLineUptoCard

/-- THE SECOND FORM's CARD OF 'laws.FnExactTriangleLine'. -/
def fnExactTriangleLineUptoCard : Claim7 := { stood := { row := fnExactTriangleLineUptoRow, standIns := [], harness := (true, "6edc7f8a0dc440e65c59fd603b027478e42ac55b2b610bf5debbea7c5f6986fc"), looks := true }, kinds := [], alts := [], laidByText := true, laidKinds := [.data, .data, .data], laidTests := true, laidLooks := .later }
def FnExactTriangleLineUptoCardSaid : Prop := Claim7.holds Tryd.pinned (.plain (OpenSpec.upto fnExactTriangleLineSpec)) fnExactTriangleLineUptoCard
end Rows
end Go.Proofs.YtndlmckfacegeaaDoor
