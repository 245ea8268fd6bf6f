/-
  DERIVED. GIVEN WITH THE SEED: THE CARDS: each row of YtmkfabdkadocdaaDoorRows.lean that lists a variable, with what it lists TIED to the program's text (the seventh form; the later family's looks); each row that meets fmt, with fmt's text TOLD by the authors' own Lean function (tested against real Go, not proved from fmt's source: count such statements apart). THE CARD IS WHAT COUNTS. Prove the row's statement (the work); the ties are given (YtmkfabdkadocdaaDoorTie.lean); close each card by the builder's one call (the guide's Derived/Test/ToyasCard.lean, 'card_holds'). Laid BY PROGRAM, IN A SANDBOX (cutbox-door.mjs). By AI agents, Wed Nov 11 2026. No macro, syntax, notation, axiom, sorry.
-/
import Derived.Test.YtmkfabdkadocdaaDoorRows
import GoSem.ClaimSeven
namespace Go.Proofs.YtmkfabdkadocdaaDoor
namespace Rows

/-- THE TIED CARD OF 'accesscontrollaw15.ExpandPairs'. -/
def expandPairsCard : Claim7 := { stood := { row := expandPairsRow, standIns := [], harness := (true, "22d16627acb37dc7b4cb7201a44cbc70f38b561c4dcb0f67bf7dfd606c0a4fa0"), looks := false }, kinds := [], alts := [], laidByText := true, laidKinds := [.data], laidTests := true, laidLooks := .later }
def ExpandPairsCardSaid : Prop := Claim7.holds Tryd.pinned (.plain (OpenSpec.ofChange expandPairsSpec)) expandPairsCard

/-- THE TIED CARD OF 'accesscontrollaw15.ExpandExact'. -/
def expandExactCard : Claim7 := { stood := { row := expandExactRow, standIns := [], harness := (true, "22d16627acb37dc7b4cb7201a44cbc70f38b561c4dcb0f67bf7dfd606c0a4fa0"), looks := false }, kinds := [], alts := [], laidByText := true, laidKinds := [.data], laidTests := true, laidLooks := .later }
def ExpandExactCardSaid : Prop := Claim7.holds Tryd.pinned (.plain (OpenSpec.ofChange expandExactSpec)) expandExactCard

/-- THE TIED CARD OF 'accesscontrollaw15.ExpandMerges'. -/
def expandMergesCard : Claim7 := { stood := { row := expandMergesRow, standIns := [], harness := (true, "22d16627acb37dc7b4cb7201a44cbc70f38b561c4dcb0f67bf7dfd606c0a4fa0"), looks := false }, kinds := [], alts := [], laidByText := true, laidKinds := [.data], laidTests := true, laidLooks := .later }
def ExpandMergesCardSaid : Prop := Claim7.holds Tryd.pinned (.plain (OpenSpec.ofChange expandMergesSpec)) expandMergesCard

/-- THE TIED CARD OF 'accesscontrollaw15.ExpandNever'. -/
def expandNeverCard : Claim7 := { stood := { row := expandNeverRow, standIns := [], harness := (true, "22d16627acb37dc7b4cb7201a44cbc70f38b561c4dcb0f67bf7dfd606c0a4fa0"), looks := false }, kinds := [], alts := [], laidByText := true, laidKinds := [.data], laidTests := true, laidLooks := .later }
def ExpandNeverCardSaid : Prop := Claim7.holds Tryd.pinned (.plain (OpenSpec.ofChange expandNeverSpec)) expandNeverCard

/-- THE TIED CARD OF 'accesscontrollaw15.ExpandRules'. -/
def expandRulesCard : Claim7 := { stood := { row := expandRulesRow, standIns := [], harness := (true, "22d16627acb37dc7b4cb7201a44cbc70f38b561c4dcb0f67bf7dfd606c0a4fa0"), looks := false }, kinds := [], alts := [], laidByText := true, laidKinds := [.data], laidTests := true, laidLooks := .later }
def ExpandRulesCardSaid : Prop := Claim7.holds Tryd.pinned (.plain (OpenSpec.ofChange expandRulesSpec)) expandRulesCard

/-- THE TIED CARD OF 'accesscontrollaw15.ExpandCompresses'. -/
def expandCompressesCard : Claim7 := { stood := { row := expandCompressesRow, standIns := [], harness := (true, "22d16627acb37dc7b4cb7201a44cbc70f38b561c4dcb0f67bf7dfd606c0a4fa0"), looks := false }, kinds := [], alts := [], laidByText := true, laidKinds := [.data], laidTests := true, laidLooks := .later }
def ExpandCompressesCardSaid : Prop := Claim7.holds Tryd.pinned (.plain (OpenSpec.ofChange expandCompressesSpec)) expandCompressesCard

/-- THE TIED CARD OF 'accesscontrollaw15.ExpandOrder'. -/
def expandOrderCard : Claim7 := { stood := { row := expandOrderRow, standIns := [], harness := (true, "22d16627acb37dc7b4cb7201a44cbc70f38b561c4dcb0f67bf7dfd606c0a4fa0"), looks := false }, kinds := [], alts := [], laidByText := true, laidKinds := [.data], laidTests := true, laidLooks := .later }
def ExpandOrderCardSaid : Prop := Claim7.holds Tryd.pinned (.plain (OpenSpec.ofChange expandOrderSpec)) expandOrderCard

/-- THE SECOND FORM's CARD OF 'accesscontrollaw15.ExpandPairs'. -/
def expandPairsUptoCard : Claim7 := { stood := { row := expandPairsUptoRow, standIns := [], harness := (true, "22d16627acb37dc7b4cb7201a44cbc70f38b561c4dcb0f67bf7dfd606c0a4fa0"), looks := false }, kinds := [], alts := [], laidByText := true, laidKinds := [.data], laidTests := true, laidLooks := .later }
def ExpandPairsUptoCardSaid : Prop := Claim7.holds Tryd.pinned (.plain (OpenSpec.upto expandPairsSpec)) expandPairsUptoCard

/-- THE SECOND FORM's CARD OF 'accesscontrollaw15.ExpandExact'. -/
def expandExactUptoCard : Claim7 := { stood := { row := expandExactUptoRow, standIns := [], harness := (true, "22d16627acb37dc7b4cb7201a44cbc70f38b561c4dcb0f67bf7dfd606c0a4fa0"), looks := false }, kinds := [], alts := [], laidByText := true, laidKinds := [.data], laidTests := true, laidLooks := .later }
def ExpandExactUptoCardSaid : Prop := Claim7.holds Tryd.pinned (.plain (OpenSpec.upto expandExactSpec)) expandExactUptoCard

/-- THE SECOND FORM's CARD OF 'accesscontrollaw15.ExpandMerges'. -/
def expandMergesUptoCard : Claim7 := { stood := { row := expandMergesUptoRow, standIns := [], harness := (true, "22d16627acb37dc7b4cb7201a44cbc70f38b561c4dcb0f67bf7dfd606c0a4fa0"), looks := false }, kinds := [], alts := [], laidByText := true, laidKinds := [.data], laidTests := true, laidLooks := .later }
def ExpandMergesUptoCardSaid : Prop := Claim7.holds Tryd.pinned (.plain (OpenSpec.upto expandMergesSpec)) expandMergesUptoCard

/-- THE SECOND FORM's CARD OF 'accesscontrollaw15.ExpandNever'. -/
def expandNeverUptoCard : Claim7 := { stood := { row := expandNeverUptoRow, standIns := [], harness := (true, "22d16627acb37dc7b4cb7201a44cbc70f38b561c4dcb0f67bf7dfd606c0a4fa0"), looks := false }, kinds := [], alts := [], laidByText := true, laidKinds := [.data], laidTests := true, laidLooks := .later }
def ExpandNeverUptoCardSaid : Prop := Claim7.holds Tryd.pinned (.plain (OpenSpec.upto expandNeverSpec)) expandNeverUptoCard

/-- THE SECOND FORM's CARD OF 'accesscontrollaw15.ExpandRules'. -/
def expandRulesUptoCard : Claim7 := { stood := { row := expandRulesUptoRow, standIns := [], harness := (true, "22d16627acb37dc7b4cb7201a44cbc70f38b561c4dcb0f67bf7dfd606c0a4fa0"), looks := false }, kinds := [], alts := [], laidByText := true, laidKinds := [.data], laidTests := true, laidLooks := .later }
def ExpandRulesUptoCardSaid : Prop := Claim7.holds Tryd.pinned (.plain (OpenSpec.upto expandRulesSpec)) expandRulesUptoCard

/-- THE SECOND FORM's CARD OF 'accesscontrollaw15.ExpandCompresses'. -/
def expandCompressesUptoCard : Claim7 := { stood := { row := expandCompressesUptoRow, standIns := [], harness := (true, "22d16627acb37dc7b4cb7201a44cbc70f38b561c4dcb0f67bf7dfd606c0a4fa0"), looks := false }, kinds := [], alts := [], laidByText := true, laidKinds := [.data], laidTests := true, laidLooks := .later }
def ExpandCompressesUptoCardSaid : Prop := Claim7.holds Tryd.pinned (.plain (OpenSpec.upto expandCompressesSpec)) expandCompressesUptoCard

/-- THE SECOND FORM's CARD OF 'accesscontrollaw15.ExpandOrder'. -/
def expandOrderUptoCard : Claim7 := { stood := { row := expandOrderUptoRow, standIns := [], harness := (true, "22d16627acb37dc7b4cb7201a44cbc70f38b561c4dcb0f67bf7dfd606c0a4fa0"), looks := false }, kinds := [], alts := [], laidByText := true, laidKinds := [.data], laidTests := true, laidLooks := .later }
def ExpandOrderUptoCardSaid : Prop := Claim7.holds Tryd.pinned (.plain (OpenSpec.upto expandOrderSpec)) expandOrderUptoCard
end Rows
end Go.Proofs.YtmkfabdkadocdaaDoor
