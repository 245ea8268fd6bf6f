/-
  DERIVED. GIVEN WITH THE SEED: THE CARDS: each row of YtkkmjdceiocnbaaGreatDoorRows.lean that lists a variable, with what it lists TIED to the program's text (the seventh form; the later family's looks); each row that meets fmt, with fmt's text TOLD by the authors' own Lean function (tested against real Go, not proved from fmt's source: count such statements apart). THE CARD IS WHAT COUNTS. Prove the row's statement (the work); the ties are given (YtkkmjdceiocnbaaGreatDoorTie.lean); close each card by the builder's one call (the guide's Derived/Test/ToyasCard.lean, 'card_holds'). Laid BY PROGRAM, IN A SANDBOX (cutbox-door.mjs). By AI agents, Wed Nov 11 2026. No macro, syntax, notation, axiom, sorry.
-/
import Derived.Test.YtkkmjdceiocnbaaGreatDoorRows
import GoSem.ClaimSeven
namespace Go.Proofs.YtkkmjdceiocnbaaGreatDoor
namespace Rows

/-- THE TIED CARD OF 'accesscontrollaw25.BinaryEncodes'. -/
def binaryEncodesCard : Claim7 := { stood := { row := binaryEncodesRow, standIns := [], harness := (true, "21cd7d88085a88a46529f49a80f1c1ae8c50f5ac4152a0b85a4be9318cf10102"), looks := true }, kinds := [], alts := [], laidByText := true, laidKinds := [.sentinel], laidTests := true, laidLooks := .later }
def BinaryEncodesCardSaid : Prop := Claim7.holds Tryz.pinned (.plain (OpenSpec.ofChange binaryEncodesSpec)) binaryEncodesCard

/-- THE TIED CARD OF 'accesscontrollaw25.BinaryDecodes'. -/
def binaryDecodesCard : Claim7 := { stood := { row := binaryDecodesRow, standIns := [], harness := (true, "21cd7d88085a88a46529f49a80f1c1ae8c50f5ac4152a0b85a4be9318cf10102"), looks := true }, kinds := [], alts := [], laidByText := true, laidKinds := [.sentinel], laidTests := true, laidLooks := .later }
def BinaryDecodesCardSaid : Prop := Claim7.holds Tryz.pinned (.plain (OpenSpec.ofChange binaryDecodesSpec)) binaryDecodesCard

/-- THE TIED CARD OF 'accesscontrollaw25.BinaryRoundTrip'. -/
def binaryRoundTripCard : Claim7 := { stood := { row := binaryRoundTripRow, standIns := [], harness := (true, "21cd7d88085a88a46529f49a80f1c1ae8c50f5ac4152a0b85a4be9318cf10102"), looks := true }, kinds := [], alts := [], laidByText := true, laidKinds := [.sentinel], laidTests := true, laidLooks := .later }
def BinaryRoundTripCardSaid : Prop := Claim7.holds Tryz.pinned (.plain (OpenSpec.ofChange binaryRoundTripSpec)) binaryRoundTripCard

/-- THE TIED CARD OF 'accesscontrollaw25.BinaryCanonical'. -/
def binaryCanonicalCard : Claim7 := { stood := { row := binaryCanonicalRow, standIns := [], harness := (true, "21cd7d88085a88a46529f49a80f1c1ae8c50f5ac4152a0b85a4be9318cf10102"), looks := true }, kinds := [], alts := [], laidByText := true, laidKinds := [.sentinel], laidTests := true, laidLooks := .later }
def BinaryCanonicalCardSaid : Prop := Claim7.holds Tryz.pinned (.plain (OpenSpec.ofChange binaryCanonicalSpec)) binaryCanonicalCard

/-- THE TIED CARD OF 'accesscontrollaw25.BinaryVersions'. -/
def binaryVersionsCard : Claim7 := { stood := { row := binaryVersionsRow, standIns := [], harness := (true, "21cd7d88085a88a46529f49a80f1c1ae8c50f5ac4152a0b85a4be9318cf10102"), looks := true }, kinds := [], alts := [], laidByText := true, laidKinds := [.sentinel], laidTests := true, laidLooks := .later }
def BinaryVersionsCardSaid : Prop := Claim7.holds Tryz.pinned (.plain (OpenSpec.ofChange binaryVersionsSpec)) binaryVersionsCard

/-- THE TIED CARD OF 'accesscontrollaw25.BinaryDamage'. -/
def binaryDamageCard : Claim7 := { stood := { row := binaryDamageRow, standIns := [], harness := (true, "21cd7d88085a88a46529f49a80f1c1ae8c50f5ac4152a0b85a4be9318cf10102"), looks := true }, kinds := [], alts := [], laidByText := true, laidKinds := [.sentinel], laidTests := true, laidLooks := .later }
def BinaryDamageCardSaid : Prop := Claim7.holds Tryz.pinned (.plain (OpenSpec.ofChange binaryDamageSpec)) binaryDamageCard

/-- THE TIED CARD OF 'accesscontrollaw25.BinaryDecides'. -/
def binaryDecidesCard : Claim7 := { stood := { row := binaryDecidesRow, standIns := [], harness := (true, "21cd7d88085a88a46529f49a80f1c1ae8c50f5ac4152a0b85a4be9318cf10102"), looks := true }, kinds := [], alts := [], laidByText := true, laidKinds := [.sentinel], laidTests := true, laidLooks := .later }
def BinaryDecidesCardSaid : Prop := Claim7.holds Tryz.pinned (.plain (OpenSpec.ofChange binaryDecidesSpec)) binaryDecidesCard

/-- THE TIED CARD OF 'accesscontrollaw25.BinaryDowngrades'. -/
def binaryDowngradesCard : Claim7 := { stood := { row := binaryDowngradesRow, standIns := [], harness := (true, "21cd7d88085a88a46529f49a80f1c1ae8c50f5ac4152a0b85a4be9318cf10102"), looks := true }, kinds := [], alts := [], laidByText := true, laidKinds := [.sentinel], laidTests := true, laidLooks := .later }
def BinaryDowngradesCardSaid : Prop := Claim7.holds Tryz.pinned (.plain (OpenSpec.ofChange binaryDowngradesSpec)) binaryDowngradesCard

/-- THE SECOND FORM's CARD OF 'accesscontrollaw25.BinaryEncodes'. -/
def binaryEncodesUptoCard : Claim7 := { stood := { row := binaryEncodesUptoRow, standIns := [], harness := (true, "21cd7d88085a88a46529f49a80f1c1ae8c50f5ac4152a0b85a4be9318cf10102"), looks := true }, kinds := [], alts := [], laidByText := true, laidKinds := [.sentinel], laidTests := true, laidLooks := .later }
def BinaryEncodesUptoCardSaid : Prop := Claim7.holds Tryz.pinned (.plain (OpenSpec.upto binaryEncodesSpec)) binaryEncodesUptoCard

/-- THE SECOND FORM's CARD OF 'accesscontrollaw25.BinaryDecodes'. -/
def binaryDecodesUptoCard : Claim7 := { stood := { row := binaryDecodesUptoRow, standIns := [], harness := (true, "21cd7d88085a88a46529f49a80f1c1ae8c50f5ac4152a0b85a4be9318cf10102"), looks := true }, kinds := [], alts := [], laidByText := true, laidKinds := [.sentinel], laidTests := true, laidLooks := .later }
def BinaryDecodesUptoCardSaid : Prop := Claim7.holds Tryz.pinned (.plain (OpenSpec.upto binaryDecodesSpec)) binaryDecodesUptoCard

/-- THE SECOND FORM's CARD OF 'accesscontrollaw25.BinaryRoundTrip'. -/
def binaryRoundTripUptoCard : Claim7 := { stood := { row := binaryRoundTripUptoRow, standIns := [], harness := (true, "21cd7d88085a88a46529f49a80f1c1ae8c50f5ac4152a0b85a4be9318cf10102"), looks := true }, kinds := [], alts := [], laidByText := true, laidKinds := [.sentinel], laidTests := true, laidLooks := .later }
def BinaryRoundTripUptoCardSaid : Prop := Claim7.holds Tryz.pinned (.plain (OpenSpec.upto binaryRoundTripSpec)) binaryRoundTripUptoCard

/-- THE SECOND FORM's CARD OF 'accesscontrollaw25.BinaryCanonical'. -/
def binaryCanonicalUptoCard : Claim7 := { stood := { row := binaryCanonicalUptoRow, standIns := [], harness := (true, "21cd7d88085a88a46529f49a80f1c1ae8c50f5ac4152a0b85a4be9318cf10102"), looks := true }, kinds := [], alts := [], laidByText := true, laidKinds := [.sentinel], laidTests := true, laidLooks := .later }
def BinaryCanonicalUptoCardSaid : Prop := Claim7.holds Tryz.pinned (.plain (OpenSpec.upto binaryCanonicalSpec)) binaryCanonicalUptoCard

/-- THE SECOND FORM's CARD OF 'accesscontrollaw25.BinaryVersions'. -/
def binaryVersionsUptoCard : Claim7 := { stood := { row := binaryVersionsUptoRow, standIns := [], harness := (true, "21cd7d88085a88a46529f49a80f1c1ae8c50f5ac4152a0b85a4be9318cf10102"), looks := true }, kinds := [], alts := [], laidByText := true, laidKinds := [.sentinel], laidTests := true, laidLooks := .later }
def BinaryVersionsUptoCardSaid : Prop := Claim7.holds Tryz.pinned (.plain (OpenSpec.upto binaryVersionsSpec)) binaryVersionsUptoCard

/-- THE SECOND FORM's CARD OF 'accesscontrollaw25.BinaryDamage'. -/
def binaryDamageUptoCard : Claim7 := { stood := { row := binaryDamageUptoRow, standIns := [], harness := (true, "21cd7d88085a88a46529f49a80f1c1ae8c50f5ac4152a0b85a4be9318cf10102"), looks := true }, kinds := [], alts := [], laidByText := true, laidKinds := [.sentinel], laidTests := true, laidLooks := .later }
def BinaryDamageUptoCardSaid : Prop := Claim7.holds Tryz.pinned (.plain (OpenSpec.upto binaryDamageSpec)) binaryDamageUptoCard

/-- THE SECOND FORM's CARD OF 'accesscontrollaw25.BinaryDecides'. -/
def binaryDecidesUptoCard : Claim7 := { stood := { row := binaryDecidesUptoRow, standIns := [], harness := (true, "21cd7d88085a88a46529f49a80f1c1ae8c50f5ac4152a0b85a4be9318cf10102"), looks := true }, kinds := [], alts := [], laidByText := true, laidKinds := [.sentinel], laidTests := true, laidLooks := .later }
def BinaryDecidesUptoCardSaid : Prop := Claim7.holds Tryz.pinned (.plain (OpenSpec.upto binaryDecidesSpec)) binaryDecidesUptoCard

/-- THE SECOND FORM's CARD OF 'accesscontrollaw25.BinaryDowngrades'. -/
def binaryDowngradesUptoCard : Claim7 := { stood := { row := binaryDowngradesUptoRow, standIns := [], harness := (true, "21cd7d88085a88a46529f49a80f1c1ae8c50f5ac4152a0b85a4be9318cf10102"), looks := true }, kinds := [], alts := [], laidByText := true, laidKinds := [.sentinel], laidTests := true, laidLooks := .later }
def BinaryDowngradesUptoCardSaid : Prop := Claim7.holds Tryz.pinned (.plain (OpenSpec.upto binaryDowngradesSpec)) binaryDowngradesUptoCard
end Rows
end Go.Proofs.YtkkmjdceiocnbaaGreatDoor
