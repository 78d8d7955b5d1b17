/-
  DERIVED. GIVEN WITH THE SEED: THE CARDS: each row of YtpmpcaahbhdiiaaDoorRows.lean that lists a variable, with what it lists TIED to the program's text (the seventh form; the later family's looks); each row that meets fmt, with fmt's text TOLD by the authors' own Lean function (tested against real Go, not proved from fmt's source: count such statements apart). THE CARD IS WHAT COUNTS. Prove the row's statement (the work); the ties are given (YtpmpcaahbhdiiaaDoorTie.lean); close each card by the builder's one call (the guide's Derived/Test/ToyasCard.lean, 'card_holds'). Laid BY PROGRAM, IN A SANDBOX (cutbox-door.mjs). By AI agents, Wed Nov 11 2026. No macro, syntax, notation, axiom, sorry.
-/
import Derived.Test.YtpmpcaahbhdiiaaDoorRows
import GoSem.ClaimSeven
namespace Go.Proofs.YtpmpcaahbhdiiaaDoor
namespace Rows

/-- THE TIED CARD OF 'laws.FnExactFormatNumbers'. -/
def fnExactFormatNumbersCard : Claim7 := { stood := { row := fnExactFormatNumbersRow, standIns := [], harness := (true, "0b1e13b4f4c1a8e2eea9cb1aec1681f2adad5784a4a7e809352ab6d5484b2187"), looks := true }, kinds := [], alts := [], laidByText := true, laidKinds := [.data, .data, .data], laidTests := true, laidLooks := .later }
def FnExactFormatNumbersCardSaid : Prop := Claim7.holds Tryd.pinned (.plain (OpenSpec.ofChange fnExactFormatNumbersSpec)) fnExactFormatNumbersCard

/-- THE TIED CARD OF 'laws.FnExactFormatPoints'. -/
def fnExactFormatPointsCard : Claim7 := { stood := { row := fnExactFormatPointsRow, standIns := [], harness := (true, "0b1e13b4f4c1a8e2eea9cb1aec1681f2adad5784a4a7e809352ab6d5484b2187"), looks := true }, kinds := [], alts := [], laidByText := true, laidKinds := [.data, .data, .data], laidTests := true, laidLooks := .later }
def FnExactFormatPointsCardSaid : Prop := Claim7.holds Tryd.pinned (.plain (OpenSpec.ofChange fnExactFormatPointsSpec)) fnExactFormatPointsCard

/-- THE TIED CARD OF 'laws.FnExactRulerLine'. -/
def fnExactRulerLineCard : Claim7 := { stood := { row := fnExactRulerLineRow, standIns := [], harness := (true, "0b1e13b4f4c1a8e2eea9cb1aec1681f2adad5784a4a7e809352ab6d5484b2187"), looks := true }, kinds := [], alts := [], laidByText := true, laidKinds := [.data, .data, .data], laidTests := true, laidLooks := .later }
def FnExactRulerLineCardSaid : Prop := Claim7.holds Tryd.pinned (.plain (OpenSpec.ofChange fnExactRulerLineSpec)) fnExactRulerLineCard

/-- THE TIED CARD OF 'laws.FnExactPolygonLine'. -/
def fnExactPolygonLineCard : Claim7 := { stood := { row := fnExactPolygonLineRow, standIns := [], harness := (true, "0b1e13b4f4c1a8e2eea9cb1aec1681f2adad5784a4a7e809352ab6d5484b2187"), looks := true }, kinds := [], alts := [], laidByText := true, laidKinds := [.data, .data, .data], laidTests := true, laidLooks := .later }
def FnExactPolygonLineCardSaid : Prop := Claim7.holds Tryd.pinned (.plain (OpenSpec.ofChange fnExactPolygonLineSpec)) fnExactPolygonLineCard

/-- THE TIED CARD OF 'laws.FnExactStoreLine'. -/
def fnExactStoreLineCard : Claim7 := { stood := { row := fnExactStoreLineRow, standIns := [], harness := (true, "0b1e13b4f4c1a8e2eea9cb1aec1681f2adad5784a4a7e809352ab6d5484b2187"), looks := true }, kinds := [], alts := [], laidByText := true, laidKinds := [.data, .data, .data], laidTests := true, laidLooks := .later }
def FnExactStoreLineCardSaid : Prop := Claim7.holds Tryd.pinned (.plain (OpenSpec.ofChange fnExactStoreLineSpec)) fnExactStoreLineCard

/-- THE TIED CARD OF 'laws.FnExactParseNumbers'. -/
def fnExactParseNumbersCard : Claim7 := { stood := { row := fnExactParseNumbersRow, standIns := [], harness := (true, "0b1e13b4f4c1a8e2eea9cb1aec1681f2adad5784a4a7e809352ab6d5484b2187"), looks := true }, kinds := [], alts := [], laidByText := true, laidKinds := [.data, .data, .data, .data, .sentinel, .sentinel, .pinned], laidTests := true, laidLooks := .later }
def FnExactParseNumbersCardSaid : Prop := Claim7.holds Tryd.pinned (.plain (OpenSpec.ofChange fnExactParseNumbersSpec)) fnExactParseNumbersCard

/-- THE TIED CARD OF 'laws.FnExactParsePoints'. -/
def fnExactParsePointsCard : Claim7 := { stood := { row := fnExactParsePointsRow, standIns := [], harness := (true, "0b1e13b4f4c1a8e2eea9cb1aec1681f2adad5784a4a7e809352ab6d5484b2187"), looks := true }, kinds := [], alts := [], laidByText := true, laidKinds := [.data, .data, .data, .data, .sentinel, .sentinel, .pinned], laidTests := true, laidLooks := .later }
def FnExactParsePointsCardSaid : Prop := Claim7.holds Tryd.pinned (.plain (OpenSpec.ofChange fnExactParsePointsSpec)) fnExactParsePointsCard

/-- THE SECOND FORM's CARD OF 'laws.FnExactFormatNumbers'. -/
def fnExactFormatNumbersUptoCard : Claim7 := { stood := { row := fnExactFormatNumbersUptoRow, standIns := [], harness := (true, "0b1e13b4f4c1a8e2eea9cb1aec1681f2adad5784a4a7e809352ab6d5484b2187"), looks := true }, kinds := [], alts := [], laidByText := true, laidKinds := [.data, .data, .data], laidTests := true, laidLooks := .later }
def FnExactFormatNumbersUptoCardSaid : Prop := Claim7.holds Tryd.pinned (.plain (OpenSpec.upto fnExactFormatNumbersSpec)) fnExactFormatNumbersUptoCard

/-- THE SECOND FORM's CARD OF 'laws.FnExactFormatPoints'. -/
def fnExactFormatPointsUptoCard : Claim7 := { stood := { row := fnExactFormatPointsUptoRow, standIns := [], harness := (true, "0b1e13b4f4c1a8e2eea9cb1aec1681f2adad5784a4a7e809352ab6d5484b2187"), looks := true }, kinds := [], alts := [], laidByText := true, laidKinds := [.data, .data, .data], laidTests := true, laidLooks := .later }
def FnExactFormatPointsUptoCardSaid : Prop := Claim7.holds Tryd.pinned (.plain (OpenSpec.upto fnExactFormatPointsSpec)) fnExactFormatPointsUptoCard

/-- THE SECOND FORM's CARD OF 'laws.FnExactRulerLine'. -/
def fnExactRulerLineUptoCard : Claim7 := { stood := { row := fnExactRulerLineUptoRow, standIns := [], harness := (true, "0b1e13b4f4c1a8e2eea9cb1aec1681f2adad5784a4a7e809352ab6d5484b2187"), looks := true }, kinds := [], alts := [], laidByText := true, laidKinds := [.data, .data, .data], laidTests := true, laidLooks := .later }
def FnExactRulerLineUptoCardSaid : Prop := Claim7.holds Tryd.pinned (.plain (OpenSpec.upto fnExactRulerLineSpec)) fnExactRulerLineUptoCard

/-- THE SECOND FORM's CARD OF 'laws.FnExactPolygonLine'. -/
def fnExactPolygonLineUptoCard : Claim7 := { stood := { row := fnExactPolygonLineUptoRow, standIns := [], harness := (true, "0b1e13b4f4c1a8e2eea9cb1aec1681f2adad5784a4a7e809352ab6d5484b2187"), looks := true }, kinds := [], alts := [], laidByText := true, laidKinds := [.data, .data, .data], laidTests := true, laidLooks := .later }
def FnExactPolygonLineUptoCardSaid : Prop := Claim7.holds Tryd.pinned (.plain (OpenSpec.upto fnExactPolygonLineSpec)) fnExactPolygonLineUptoCard

/-- THE SECOND FORM's CARD OF 'laws.FnExactStoreLine'. -/
def fnExactStoreLineUptoCard : Claim7 := { stood := { row := fnExactStoreLineUptoRow, standIns := [], harness := (true, "0b1e13b4f4c1a8e2eea9cb1aec1681f2adad5784a4a7e809352ab6d5484b2187"), looks := true }, kinds := [], alts := [], laidByText := true, laidKinds := [.data, .data, .data], laidTests := true, laidLooks := .later }
def FnExactStoreLineUptoCardSaid : Prop := Claim7.holds Tryd.pinned (.plain (OpenSpec.upto fnExactStoreLineSpec)) fnExactStoreLineUptoCard

/-- THE SECOND FORM's CARD OF 'laws.FnExactParseNumbers'. -/
def fnExactParseNumbersUptoCard : Claim7 := { stood := { row := fnExactParseNumbersUptoRow, standIns := [], harness := (true, "0b1e13b4f4c1a8e2eea9cb1aec1681f2adad5784a4a7e809352ab6d5484b2187"), looks := true }, kinds := [], alts := [], laidByText := true, laidKinds := [.data, .data, .data, .data, .sentinel, .sentinel, .pinned], laidTests := true, laidLooks := .later }
def FnExactParseNumbersUptoCardSaid : Prop := Claim7.holds Tryd.pinned (.plain (OpenSpec.upto fnExactParseNumbersSpec)) fnExactParseNumbersUptoCard

/-- THE SECOND FORM's CARD OF 'laws.FnExactParsePoints'. -/
def fnExactParsePointsUptoCard : Claim7 := { stood := { row := fnExactParsePointsUptoRow, standIns := [], harness := (true, "0b1e13b4f4c1a8e2eea9cb1aec1681f2adad5784a4a7e809352ab6d5484b2187"), looks := true }, kinds := [], alts := [], laidByText := true, laidKinds := [.data, .data, .data, .data, .sentinel, .sentinel, .pinned], laidTests := true, laidLooks := .later }
def FnExactParsePointsUptoCardSaid : Prop := Claim7.holds Tryd.pinned (.plain (OpenSpec.upto fnExactParsePointsSpec)) fnExactParsePointsUptoCard
end Rows
end Go.Proofs.YtpmpcaahbhdiiaaDoor
