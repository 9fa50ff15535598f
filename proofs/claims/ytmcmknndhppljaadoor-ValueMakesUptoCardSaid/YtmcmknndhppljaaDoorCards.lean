/-
  DERIVED. GIVEN WITH THE SEED: THE CARDS: each row of YtmcmknndhppljaaDoorRows.lean that lists a variable, with what it lists TIED to the program's text (the seventh form; the later family's looks); each row that meets fmt, with fmt's text TOLD by the authors' own Lean function (tested against real Go, not proved from fmt's source: count such statements apart). THE CARD IS WHAT COUNTS. Prove the row's statement (the work); the ties are given (YtmcmknndhppljaaDoorTie.lean); close each card by the builder's one call (the guide's Derived/Test/ToyasCard.lean, 'card_holds'). Laid BY PROGRAM, IN A SANDBOX (cutbox-door.mjs). By AI agents, Wed Nov 11 2026. No macro, syntax, notation, axiom, sorry.
-/
import Derived.Test.YtmcmknndhppljaaDoorRows
import GoSem.ClaimSeven
namespace Go.Proofs.YtmcmknndhppljaaDoor
namespace Rows

/-- THE TIED CARD OF 'davenportlaw13.MonoidComes'. -/
def monoidComesCard : Claim7 := { stood := { row := monoidComesRow, standIns := [], harness := (true, "ecddc32641321b2f180b3bcd5389cde1c89a8b242de2e4e2b39208188b58bd12"), looks := false }, kinds := [], alts := [], laidByText := true, laidKinds := [.data], laidTests := true, laidLooks := .later }
def MonoidComesCardSaid : Prop := Claim7.holds Tryd.pinned (.plain (OpenSpec.ofChange monoidComesSpec)) monoidComesCard

/-- THE TIED CARD OF 'davenportlaw13.MonoidSmall'. -/
def monoidSmallCard : Claim7 := { stood := { row := monoidSmallRow, standIns := [], harness := (true, "ecddc32641321b2f180b3bcd5389cde1c89a8b242de2e4e2b39208188b58bd12"), looks := false }, kinds := [], alts := [], laidByText := true, laidKinds := [.data], laidTests := true, laidLooks := .later }
def MonoidSmallCardSaid : Prop := Claim7.holds Tryd.pinned (.plain (OpenSpec.ofChange monoidSmallSpec)) monoidSmallCard

/-- THE TIED CARD OF 'davenportlaw04.ValueMakes'. -/
def valueMakesCard : Claim7 := { stood := { row := valueMakesRow, standIns := [], harness := (true, "ecddc32641321b2f180b3bcd5389cde1c89a8b242de2e4e2b39208188b58bd12"), looks := false }, kinds := [], alts := [], laidByText := true, laidKinds := [.data], laidTests := true, laidLooks := .later }
def ValueMakesCardSaid : Prop := Claim7.holds Tryd.pinned (.plain (OpenSpec.ofChange valueMakesSpec)) valueMakesCard

/-- THE TIED CARD OF 'davenportlaw04.ValueTells'. -/
def valueTellsCard : Claim7 := { stood := { row := valueTellsRow, standIns := [], harness := (true, "ecddc32641321b2f180b3bcd5389cde1c89a8b242de2e4e2b39208188b58bd12"), looks := false }, kinds := [], alts := [], laidByText := true, laidKinds := [.data], laidTests := true, laidLooks := .later }
def ValueTellsCardSaid : Prop := Claim7.holds Tryd.pinned (.plain (OpenSpec.ofChange valueTellsSpec)) valueTellsCard

/-- THE TIED CARD OF 'davenportlaw04.ValueChecks'. -/
def valueChecksCard : Claim7 := { stood := { row := valueChecksRow, standIns := [], harness := (true, "ecddc32641321b2f180b3bcd5389cde1c89a8b242de2e4e2b39208188b58bd12"), looks := false }, kinds := [], alts := [], laidByText := true, laidKinds := [.data], laidTests := true, laidLooks := .later }
def ValueChecksCardSaid : Prop := Claim7.holds Tryd.pinned (.plain (OpenSpec.ofChange valueChecksSpec)) valueChecksCard

/-- THE TIED CARD OF 'davenportlaw04.ValueLists'. -/
def valueListsCard : Claim7 := { stood := { row := valueListsRow, standIns := [], harness := (true, "ecddc32641321b2f180b3bcd5389cde1c89a8b242de2e4e2b39208188b58bd12"), looks := false }, kinds := [], alts := [], laidByText := true, laidKinds := [.data], laidTests := true, laidLooks := .later }
def ValueListsCardSaid : Prop := Claim7.holds Tryd.pinned (.plain (OpenSpec.ofChange valueListsSpec)) valueListsCard

/-- THE TIED CARD OF 'davenportlaw04.ValueHolds'. -/
def valueHoldsCard : Claim7 := { stood := { row := valueHoldsRow, standIns := [], harness := (true, "ecddc32641321b2f180b3bcd5389cde1c89a8b242de2e4e2b39208188b58bd12"), looks := false }, kinds := [], alts := [], laidByText := true, laidKinds := [.data], laidTests := true, laidLooks := .later }
def ValueHoldsCardSaid : Prop := Claim7.holds Tryd.pinned (.plain (OpenSpec.ofChange valueHoldsSpec)) valueHoldsCard

/-- THE TIED CARD OF 'davenportlaw04.ValueOrders'. -/
def valueOrdersCard : Claim7 := { stood := { row := valueOrdersRow, standIns := [], harness := (true, "ecddc32641321b2f180b3bcd5389cde1c89a8b242de2e4e2b39208188b58bd12"), looks := false }, kinds := [], alts := [], laidByText := true, laidKinds := [.data], laidTests := true, laidLooks := .later }
def ValueOrdersCardSaid : Prop := Claim7.holds Tryd.pinned (.plain (OpenSpec.ofChange valueOrdersSpec)) valueOrdersCard

/-- THE TIED CARD OF 'davenportlaw04.ValuePaths'. -/
def valuePathsCard : Claim7 := { stood := { row := valuePathsRow, standIns := [], harness := (true, "ecddc32641321b2f180b3bcd5389cde1c89a8b242de2e4e2b39208188b58bd12"), looks := false }, kinds := [], alts := [], laidByText := true, laidKinds := [.data], laidTests := true, laidLooks := .later }
def ValuePathsCardSaid : Prop := Claim7.holds Tryd.pinned (.plain (OpenSpec.ofChange valuePathsSpec)) valuePathsCard

/-- THE SECOND FORM's CARD OF 'davenportlaw13.MonoidComes'. -/
def monoidComesUptoCard : Claim7 := { stood := { row := monoidComesUptoRow, standIns := [], harness := (true, "ecddc32641321b2f180b3bcd5389cde1c89a8b242de2e4e2b39208188b58bd12"), looks := false }, kinds := [], alts := [], laidByText := true, laidKinds := [.data], laidTests := true, laidLooks := .later }
def MonoidComesUptoCardSaid : Prop := Claim7.holds Tryd.pinned (.plain (OpenSpec.upto monoidComesSpec)) monoidComesUptoCard

/-- THE SECOND FORM's CARD OF 'davenportlaw13.MonoidSmall'. -/
def monoidSmallUptoCard : Claim7 := { stood := { row := monoidSmallUptoRow, standIns := [], harness := (true, "ecddc32641321b2f180b3bcd5389cde1c89a8b242de2e4e2b39208188b58bd12"), looks := false }, kinds := [], alts := [], laidByText := true, laidKinds := [.data], laidTests := true, laidLooks := .later }
def MonoidSmallUptoCardSaid : Prop := Claim7.holds Tryd.pinned (.plain (OpenSpec.upto monoidSmallSpec)) monoidSmallUptoCard

/-- THE SECOND FORM's CARD OF 'davenportlaw04.ValueMakes'. -/
def valueMakesUptoCard : Claim7 := { stood := { row := valueMakesUptoRow, standIns := [], harness := (true, "ecddc32641321b2f180b3bcd5389cde1c89a8b242de2e4e2b39208188b58bd12"), looks := false }, kinds := [], alts := [], laidByText := true, laidKinds := [.data], laidTests := true, laidLooks := .later }
def ValueMakesUptoCardSaid : Prop := Claim7.holds Tryd.pinned (.plain (OpenSpec.upto valueMakesSpec)) valueMakesUptoCard

/-- THE SECOND FORM's CARD OF 'davenportlaw04.ValueTells'. -/
def valueTellsUptoCard : Claim7 := { stood := { row := valueTellsUptoRow, standIns := [], harness := (true, "ecddc32641321b2f180b3bcd5389cde1c89a8b242de2e4e2b39208188b58bd12"), looks := false }, kinds := [], alts := [], laidByText := true, laidKinds := [.data], laidTests := true, laidLooks := .later }
def ValueTellsUptoCardSaid : Prop := Claim7.holds Tryd.pinned (.plain (OpenSpec.upto valueTellsSpec)) valueTellsUptoCard

/-- THE SECOND FORM's CARD OF 'davenportlaw04.ValueChecks'. -/
def valueChecksUptoCard : Claim7 := { stood := { row := valueChecksUptoRow, standIns := [], harness := (true, "ecddc32641321b2f180b3bcd5389cde1c89a8b242de2e4e2b39208188b58bd12"), looks := false }, kinds := [], alts := [], laidByText := true, laidKinds := [.data], laidTests := true, laidLooks := .later }
def ValueChecksUptoCardSaid : Prop := Claim7.holds Tryd.pinned (.plain (OpenSpec.upto valueChecksSpec)) valueChecksUptoCard

/-- THE SECOND FORM's CARD OF 'davenportlaw04.ValueLists'. -/
def valueListsUptoCard : Claim7 := { stood := { row := valueListsUptoRow, standIns := [], harness := (true, "ecddc32641321b2f180b3bcd5389cde1c89a8b242de2e4e2b39208188b58bd12"), looks := false }, kinds := [], alts := [], laidByText := true, laidKinds := [.data], laidTests := true, laidLooks := .later }
def ValueListsUptoCardSaid : Prop := Claim7.holds Tryd.pinned (.plain (OpenSpec.upto valueListsSpec)) valueListsUptoCard

/-- THE SECOND FORM's CARD OF 'davenportlaw04.ValueHolds'. -/
def valueHoldsUptoCard : Claim7 := { stood := { row := valueHoldsUptoRow, standIns := [], harness := (true, "ecddc32641321b2f180b3bcd5389cde1c89a8b242de2e4e2b39208188b58bd12"), looks := false }, kinds := [], alts := [], laidByText := true, laidKinds := [.data], laidTests := true, laidLooks := .later }
def ValueHoldsUptoCardSaid : Prop := Claim7.holds Tryd.pinned (.plain (OpenSpec.upto valueHoldsSpec)) valueHoldsUptoCard

/-- THE SECOND FORM's CARD OF 'davenportlaw04.ValueOrders'. -/
def valueOrdersUptoCard : Claim7 := { stood := { row := valueOrdersUptoRow, standIns := [], harness := (true, "ecddc32641321b2f180b3bcd5389cde1c89a8b242de2e4e2b39208188b58bd12"), looks := false }, kinds := [], alts := [], laidByText := true, laidKinds := [.data], laidTests := true, laidLooks := .later }
def ValueOrdersUptoCardSaid : Prop := Claim7.holds Tryd.pinned (.plain (OpenSpec.upto valueOrdersSpec)) valueOrdersUptoCard

/-- THE SECOND FORM's CARD OF 'davenportlaw04.ValuePaths'. -/
def valuePathsUptoCard : Claim7 := { stood := { row := valuePathsUptoRow, standIns := [], harness := (true, "ecddc32641321b2f180b3bcd5389cde1c89a8b242de2e4e2b39208188b58bd12"), looks := false }, kinds := [], alts := [], laidByText := true, laidKinds := [.data], laidTests := true, laidLooks := .later }
def ValuePathsUptoCardSaid : Prop := Claim7.holds Tryd.pinned (.plain (OpenSpec.upto valuePathsSpec)) valuePathsUptoCard
end Rows
end Go.Proofs.YtmcmknndhppljaaDoor
