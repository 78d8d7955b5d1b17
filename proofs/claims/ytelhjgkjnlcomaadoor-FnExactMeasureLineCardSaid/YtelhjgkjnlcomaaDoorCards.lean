/-
  DERIVED. GIVEN WITH THE SEED: THE CARDS: each row of YtelhjgkjnlcomaaDoorRows.lean that lists a variable, with what it lists TIED to the program's text (the seventh form; the later family's looks); each row that meets fmt, with fmt's text TOLD by the authors' own Lean function (tested against real Go, not proved from fmt's source: count such statements apart). THE CARD IS WHAT COUNTS. Prove the row's statement (the work); the ties are given (YtelhjgkjnlcomaaDoorTie.lean); close each card by the builder's one call (the guide's Derived/Test/ToyasCard.lean, 'card_holds'). Laid BY PROGRAM, IN A SANDBOX (cutbox-door.mjs). By AI agents, Wed Nov 11 2026. No macro, syntax, notation, axiom, sorry.
-/
import Derived.Test.YtelhjgkjnlcomaaDoorRows
import GoSem.ClaimSeven
namespace Go.Proofs.YtelhjgkjnlcomaaDoor
namespace Rows

/-- THE TIED CARD OF 'laws.FnExactBarLine'. -/
def fnExactBarLineCard : Claim7 := { stood := { row := fnExactBarLineRow, standIns := [], harness := (true, "f3acf855ec21ed18f61c3805adda93b96b9b69b6d9610d7dc64a75cb024dc162"), looks := false }, kinds := [], alts := [], laidByText := true, laidKinds := [.data, .data, .data], laidTests := true, laidLooks := .later }
def FnExactBarLineCardSaid : Prop := Claim7.holds Tryd.pinned (.plain (OpenSpec.ofChange fnExactBarLineSpec)) fnExactBarLineCard

/-- THE TIED CARD OF 'laws.FnExactStoreLine'. -/
def fnExactStoreLineCard : Claim7 := { stood := { row := fnExactStoreLineRow, standIns := [], harness := (true, "f3acf855ec21ed18f61c3805adda93b96b9b69b6d9610d7dc64a75cb024dc162"), looks := false }, kinds := [], alts := [], laidByText := true, laidKinds := [.data, .data, .data], laidTests := true, laidLooks := .later }
def FnExactStoreLineCardSaid : Prop := Claim7.holds Tryd.pinned (.plain (OpenSpec.ofChange fnExactStoreLineSpec)) fnExactStoreLineCard

/-- THE TIED CARD OF 'laws.FnExactMeasureLine'. -/
def fnExactMeasureLineCard : Claim7 := { stood := { row := fnExactMeasureLineRow, standIns := [], harness := (true, "f3acf855ec21ed18f61c3805adda93b96b9b69b6d9610d7dc64a75cb024dc162"), looks := false }, kinds := [], alts := [], laidByText := true, laidKinds := [.data, .data, .data], laidTests := true, laidLooks := .later }
def FnExactMeasureLineCardSaid : Prop := Claim7.holds Tryd.pinned (.plain (OpenSpec.ofChange fnExactMeasureLineSpec)) fnExactMeasureLineCard

/-- THE TIED CARD OF 'laws.FnExactTriangleLine'. -/
def fnExactTriangleLineCard : Claim7 := { stood := { row := fnExactTriangleLineRow, standIns := [], harness := (true, "f3acf855ec21ed18f61c3805adda93b96b9b69b6d9610d7dc64a75cb024dc162"), looks := false }, kinds := [], alts := [], laidByText := true, laidKinds := [.data, .data, .data], laidTests := true, laidLooks := .later }
def FnExactTriangleLineCardSaid : Prop := Claim7.holds Tryd.pinned (.plain (OpenSpec.ofChange fnExactTriangleLineSpec)) fnExactTriangleLineCard

/-- THE SECOND FORM's CARD OF 'laws.FnExactBarLine'. -/
def fnExactBarLineUptoCard : Claim7 := { stood := { row := fnExactBarLineUptoRow, standIns := [], harness := (true, "f3acf855ec21ed18f61c3805adda93b96b9b69b6d9610d7dc64a75cb024dc162"), looks := false }, kinds := [], alts := [], laidByText := true, laidKinds := [.data, .data, .data], laidTests := true, laidLooks := .later }
def FnExactBarLineUptoCardSaid : Prop := Claim7.holds Tryd.pinned (.plain (OpenSpec.upto fnExactBarLineSpec)) fnExactBarLineUptoCard

/-- THE SECOND FORM's CARD OF 'laws.FnExactStoreLine'. -/
def fnExactStoreLineUptoCard : Claim7 := { stood := { row := fnExactStoreLineUptoRow, standIns := [], harness := (true, "f3acf855ec21ed18f61c3805adda93b96b9b69b6d9610d7dc64a75cb024dc162"), looks := false }, kinds := [], alts := [], laidByText := true, laidKinds := [.data, .data, .data], laidTests := true, laidLooks := .later }
def FnExactStoreLineUptoCardSaid : Prop := Claim7.holds Tryd.pinned (.plain (OpenSpec.upto fnExactStoreLineSpec)) fnExactStoreLineUptoCard

/-- THE SECOND FORM's CARD OF 'laws.FnExactMeasureLine'. -/
def fnExactMeasureLineUptoCard : Claim7 := { stood := { row := fnExactMeasureLineUptoRow, standIns := [], harness := (true, "f3acf855ec21ed18f61c3805adda93b96b9b69b6d9610d7dc64a75cb024dc162"), looks := false }, kinds := [], alts := [], laidByText := true, laidKinds := [.data, .data, .data], laidTests := true, laidLooks := .later }
def FnExactMeasureLineUptoCardSaid : Prop := Claim7.holds Tryd.pinned (.plain (OpenSpec.upto fnExactMeasureLineSpec)) fnExactMeasureLineUptoCard

/-- THE SECOND FORM's CARD OF 'laws.FnExactTriangleLine'. -/
def fnExactTriangleLineUptoCard : Claim7 := { stood := { row := fnExactTriangleLineUptoRow, standIns := [], harness := (true, "f3acf855ec21ed18f61c3805adda93b96b9b69b6d9610d7dc64a75cb024dc162"), looks := false }, kinds := [], alts := [], laidByText := true, laidKinds := [.data, .data, .data], laidTests := true, laidLooks := .later }
def FnExactTriangleLineUptoCardSaid : Prop := Claim7.holds Tryd.pinned (.plain (OpenSpec.upto fnExactTriangleLineSpec)) fnExactTriangleLineUptoCard
end Rows
end Go.Proofs.YtelhjgkjnlcomaaDoor
