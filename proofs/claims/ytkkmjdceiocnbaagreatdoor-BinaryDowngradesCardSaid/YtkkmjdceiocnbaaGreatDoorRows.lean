/-
  NARROWER THAN 'FOR EVERY INPUT', by the rows' own cells (each row's printed sentence says how): BinaryEncodes: loops, laid · BinaryDecodes: laid · BinaryRoundTrip: loops, laid · BinaryCanonical: laid · BinaryVersions: loops, laid · BinaryDamage: loops, laid · BinaryDecides: loops, laid · BinaryDowngrades: loops, laid.
  DERIVED. THE GIVEN ROWS OF THIS SEAT. 8 by the template 'for every input the law returns true; each argument reads behind the call as it read before'; 0 by the template 'total and deterministic' (their statements: YtkkmjdceiocnbaaGreatDoorTotals.lean).
  GIVEN WITH THE SEED: the statements are not yours to turn. If you find one false, say at which input.
  Laid BY PROGRAM, IN A SANDBOX (cutbox-rows.mjs): the forced cells as the released guide's own fill.sh prints them over the translation 968a3abf2d0c8d1a… (all of the seat's roots in one cut). By AI agents, Wed Nov 11 2026. No macro, syntax, notation, axiom, sorry.
-/
import Derived.Test.YtkkmjdceiocnbaaGreatDoorChecked
import GoSem.Claim
import GoSem.ClaimJoined
import GoSem.ClaimMapViews
import Derived.JoinedTies
import Derived.KernelRfl
namespace Go.Proofs.YtkkmjdceiocnbaaGreatDoor
/- THE CELL 'sum', in the pinned program and in every row, IS THE sha256 OF THE DUMP (.gsa) THAT YtkkmjdceiocnbaaGreatDoorProg.lean LOADS. Nothing in Lean hashes anything: it is a label: what it is worth is what the hold of that sum in a sandbox is worth. -/
noncomputable def Tryz.pinned : Pinned := { name := "ytkkmjdceiocnbaagreatdoor", sum := "968a3abf2d0c8d1a894fc4bed77523abaacf1ef0929710613998e1b06b6e8523", checked := Tryz.checked }
namespace Rows
def none {H : Type} : Left H := { results := [], args := [] }

/- WHAT THE LISTED PACKAGE-LEVEL VARIABLES READ AS WHEN THE CALL BEGINS. Each datum BY PROGRAM (the guide's laid-datum.mjs) off the statement by which the dump's own 'gosem.cut.vars' lays the variable. In a bare row this is a premise. The card (YtkkmjdceiocnbaaGreatDoorCards.lean) ties it to the program's text. -/
def laid_bytes_ErrTooLarge {H : Type} : DataW H := .iface "*errors.errorString" (.ptr (.agg [.lit (.string [98, 121, 116, 101, 115, 46, 66, 117, 102, 102, 101, 114, 58, 32, 116, 111, 111, 32, 108, 97, 114, 103, 101])]))

/-- 'accesscontrollaw25.BinaryEncodes': WHATEVER THE INPUT: true; the input reads as it did. -/
def binaryEncodesSpec : ChangeSpec := { name := "binaryEncodes", fn := fun _ => fun
  | [d1, d2] => { results := [.lit (.bool true)], args := [d1, d2] }
  | _ => none }
def binaryEncodesRow : OpenClaim := { program := "ytkkmjdceiocnbaagreatdoor", sum := "968a3abf2d0c8d1a894fc4bed77523abaacf1ef0929710613998e1b06b6e8523", func := "accesscontrol/accesscontrollaw25.BinaryEncodes", spec := "binaryEncodes", inPlace := ["internal/bytealg.IndexByteString"], unfollowed := true, recurses := true, named := ["bytes.ErrTooLarge"], loops := true, apart := false, laid := [("bytes.ErrTooLarge", laid_bytes_ErrTooLarge)] }
def BinaryEncodesSaid : Prop := binaryEncodesRow.holds Tryz.pinned (OpenSpec.ofChange binaryEncodesSpec)

/-- ITS FALSE NEIGHBOUR: 'it returns false'. Refute it at one input. -/
def binaryEncodesWrong : ChangeSpec := { name := "binaryEncodes", fn := fun _ => fun
  | [d1, d2] => { results := [.lit (.bool false)], args := [d1, d2] }
  | _ => none }
def BinaryEncodesWrongFalsely : Prop := binaryEncodesRow.holds Tryz.pinned (OpenSpec.ofChange binaryEncodesWrong)

/-- 'accesscontrollaw25.BinaryDecodes': WHATEVER THE INPUT: true; the input reads as it did. -/
def binaryDecodesSpec : ChangeSpec := { name := "binaryDecodes", fn := fun _ => fun
  | [d1, d2] => { results := [.lit (.bool true)], args := [d1, d2] }
  | _ => none }
def binaryDecodesRow : OpenClaim := { program := "ytkkmjdceiocnbaagreatdoor", sum := "968a3abf2d0c8d1a894fc4bed77523abaacf1ef0929710613998e1b06b6e8523", func := "accesscontrol/accesscontrollaw25.BinaryDecodes", spec := "binaryDecodes", inPlace := ["internal/bytealg.IndexByteString"], unfollowed := true, recurses := true, named := ["bytes.ErrTooLarge"], apart := false, laid := [("bytes.ErrTooLarge", laid_bytes_ErrTooLarge)] }
def BinaryDecodesSaid : Prop := binaryDecodesRow.holds Tryz.pinned (OpenSpec.ofChange binaryDecodesSpec)

/-- ITS FALSE NEIGHBOUR: 'it returns false'. Refute it at one input. -/
def binaryDecodesWrong : ChangeSpec := { name := "binaryDecodes", fn := fun _ => fun
  | [d1, d2] => { results := [.lit (.bool false)], args := [d1, d2] }
  | _ => none }
def BinaryDecodesWrongFalsely : Prop := binaryDecodesRow.holds Tryz.pinned (OpenSpec.ofChange binaryDecodesWrong)

/-- 'accesscontrollaw25.BinaryRoundTrip': WHATEVER THE INPUT: true; the input reads as it did. -/
def binaryRoundTripSpec : ChangeSpec := { name := "binaryRoundTrip", fn := fun _ => fun
  | [d1, d2] => { results := [.lit (.bool true)], args := [d1, d2] }
  | _ => none }
def binaryRoundTripRow : OpenClaim := { program := "ytkkmjdceiocnbaagreatdoor", sum := "968a3abf2d0c8d1a894fc4bed77523abaacf1ef0929710613998e1b06b6e8523", func := "accesscontrol/accesscontrollaw25.BinaryRoundTrip", spec := "binaryRoundTrip", inPlace := ["internal/bytealg.IndexByteString"], unfollowed := true, recurses := true, named := ["bytes.ErrTooLarge"], loops := true, apart := false, laid := [("bytes.ErrTooLarge", laid_bytes_ErrTooLarge)] }
def BinaryRoundTripSaid : Prop := binaryRoundTripRow.holds Tryz.pinned (OpenSpec.ofChange binaryRoundTripSpec)

/-- ITS FALSE NEIGHBOUR: 'it returns false'. Refute it at one input. -/
def binaryRoundTripWrong : ChangeSpec := { name := "binaryRoundTrip", fn := fun _ => fun
  | [d1, d2] => { results := [.lit (.bool false)], args := [d1, d2] }
  | _ => none }
def BinaryRoundTripWrongFalsely : Prop := binaryRoundTripRow.holds Tryz.pinned (OpenSpec.ofChange binaryRoundTripWrong)

/-- 'accesscontrollaw25.BinaryCanonical': WHATEVER THE INPUT: true; the input reads as it did. -/
def binaryCanonicalSpec : ChangeSpec := { name := "binaryCanonical", fn := fun _ => fun
  | [d] => { results := [.lit (.bool true)], args := [d] }
  | _ => none }
def binaryCanonicalRow : OpenClaim := { program := "ytkkmjdceiocnbaagreatdoor", sum := "968a3abf2d0c8d1a894fc4bed77523abaacf1ef0929710613998e1b06b6e8523", func := "accesscontrol/accesscontrollaw25.BinaryCanonical", spec := "binaryCanonical", inPlace := ["internal/bytealg.IndexByteString"], unfollowed := true, recurses := true, named := ["bytes.ErrTooLarge"], apart := false, laid := [("bytes.ErrTooLarge", laid_bytes_ErrTooLarge)] }
def BinaryCanonicalSaid : Prop := binaryCanonicalRow.holds Tryz.pinned (OpenSpec.ofChange binaryCanonicalSpec)

/-- ITS FALSE NEIGHBOUR: 'it returns false'. Refute it at one input. -/
def binaryCanonicalWrong : ChangeSpec := { name := "binaryCanonical", fn := fun _ => fun
  | [d] => { results := [.lit (.bool false)], args := [d] }
  | _ => none }
def BinaryCanonicalWrongFalsely : Prop := binaryCanonicalRow.holds Tryz.pinned (OpenSpec.ofChange binaryCanonicalWrong)

/-- 'accesscontrollaw25.BinaryVersions': WHATEVER THE INPUT: true; the input reads as it did. -/
def binaryVersionsSpec : ChangeSpec := { name := "binaryVersions", fn := fun _ => fun
  | [d] => { results := [.lit (.bool true)], args := [d] }
  | _ => none }
def binaryVersionsRow : OpenClaim := { program := "ytkkmjdceiocnbaagreatdoor", sum := "968a3abf2d0c8d1a894fc4bed77523abaacf1ef0929710613998e1b06b6e8523", func := "accesscontrol/accesscontrollaw25.BinaryVersions", spec := "binaryVersions", inPlace := ["internal/bytealg.IndexByteString"], unfollowed := true, recurses := true, named := ["bytes.ErrTooLarge"], loops := true, apart := false, laid := [("bytes.ErrTooLarge", laid_bytes_ErrTooLarge)] }
def BinaryVersionsSaid : Prop := binaryVersionsRow.holds Tryz.pinned (OpenSpec.ofChange binaryVersionsSpec)

/-- ITS FALSE NEIGHBOUR: 'it returns false'. Refute it at one input. -/
def binaryVersionsWrong : ChangeSpec := { name := "binaryVersions", fn := fun _ => fun
  | [d] => { results := [.lit (.bool false)], args := [d] }
  | _ => none }
def BinaryVersionsWrongFalsely : Prop := binaryVersionsRow.holds Tryz.pinned (OpenSpec.ofChange binaryVersionsWrong)

/-- 'accesscontrollaw25.BinaryDamage': WHATEVER THE INPUT: true; the input reads as it did. -/
def binaryDamageSpec : ChangeSpec := { name := "binaryDamage", fn := fun _ => fun
  | [d1, d2, d3] => { results := [.lit (.bool true)], args := [d1, d2, d3] }
  | _ => none }
def binaryDamageRow : OpenClaim := { program := "ytkkmjdceiocnbaagreatdoor", sum := "968a3abf2d0c8d1a894fc4bed77523abaacf1ef0929710613998e1b06b6e8523", func := "accesscontrol/accesscontrollaw25.BinaryDamage", spec := "binaryDamage", inPlace := ["internal/bytealg.IndexByteString"], unfollowed := true, recurses := true, named := ["bytes.ErrTooLarge"], loops := true, apart := false, laid := [("bytes.ErrTooLarge", laid_bytes_ErrTooLarge)] }
def BinaryDamageSaid : Prop := binaryDamageRow.holds Tryz.pinned (OpenSpec.ofChange binaryDamageSpec)

/-- ITS FALSE NEIGHBOUR: 'it returns false'. Refute it at one input. -/
def binaryDamageWrong : ChangeSpec := { name := "binaryDamage", fn := fun _ => fun
  | [d1, d2, d3] => { results := [.lit (.bool false)], args := [d1, d2, d3] }
  | _ => none }
def BinaryDamageWrongFalsely : Prop := binaryDamageRow.holds Tryz.pinned (OpenSpec.ofChange binaryDamageWrong)

/-- 'accesscontrollaw25.BinaryDecides': WHATEVER THE INPUT: true; the input reads as it did. -/
def binaryDecidesSpec : ChangeSpec := { name := "binaryDecides", fn := fun _ => fun
  | [d1, d2, d3] => { results := [.lit (.bool true)], args := [d1, d2, d3] }
  | _ => none }
def binaryDecidesRow : OpenClaim := { program := "ytkkmjdceiocnbaagreatdoor", sum := "968a3abf2d0c8d1a894fc4bed77523abaacf1ef0929710613998e1b06b6e8523", func := "accesscontrol/accesscontrollaw25.BinaryDecides", spec := "binaryDecides", inPlace := ["internal/bytealg.IndexByteString"], unfollowed := true, recurses := true, named := ["bytes.ErrTooLarge"], loops := true, apart := false, laid := [("bytes.ErrTooLarge", laid_bytes_ErrTooLarge)] }
def BinaryDecidesSaid : Prop := binaryDecidesRow.holds Tryz.pinned (OpenSpec.ofChange binaryDecidesSpec)

/-- ITS FALSE NEIGHBOUR: 'it returns false'. Refute it at one input. -/
def binaryDecidesWrong : ChangeSpec := { name := "binaryDecides", fn := fun _ => fun
  | [d1, d2, d3] => { results := [.lit (.bool false)], args := [d1, d2, d3] }
  | _ => none }
def BinaryDecidesWrongFalsely : Prop := binaryDecidesRow.holds Tryz.pinned (OpenSpec.ofChange binaryDecidesWrong)

/-- 'accesscontrollaw25.BinaryDowngrades': WHATEVER THE INPUT: true; the input reads as it did. -/
def binaryDowngradesSpec : ChangeSpec := { name := "binaryDowngrades", fn := fun _ => fun
  | [d1, d2] => { results := [.lit (.bool true)], args := [d1, d2] }
  | _ => none }
def binaryDowngradesRow : OpenClaim := { program := "ytkkmjdceiocnbaagreatdoor", sum := "968a3abf2d0c8d1a894fc4bed77523abaacf1ef0929710613998e1b06b6e8523", func := "accesscontrol/accesscontrollaw25.BinaryDowngrades", spec := "binaryDowngrades", inPlace := ["internal/bytealg.IndexByteString"], unfollowed := true, recurses := true, named := ["bytes.ErrTooLarge"], loops := true, apart := false, laid := [("bytes.ErrTooLarge", laid_bytes_ErrTooLarge)] }
def BinaryDowngradesSaid : Prop := binaryDowngradesRow.holds Tryz.pinned (OpenSpec.ofChange binaryDowngradesSpec)

/-- ITS FALSE NEIGHBOUR: 'it returns false'. Refute it at one input. -/
def binaryDowngradesWrong : ChangeSpec := { name := "binaryDowngrades", fn := fun _ => fun
  | [d1, d2] => { results := [.lit (.bool false)], args := [d1, d2] }
  | _ => none }
def BinaryDowngradesWrongFalsely : Prop := binaryDowngradesRow.holds Tryz.pinned (OpenSpec.ofChange binaryDowngradesWrong)

/- THE SECOND FORM. 'bulk': how many values and letters a reading holds, each counted each time it is reached (what is shared counts as often as it is met; a slice's spare places count too). A statement '..UptoSaid' is the law's where the arguments, and the package variables that the reading takes, are together of bulk at most 1048576: NARROWER than '..Said'. Prove '..Said' where nothing that the law and all that it calls make is longer than what came in: it says more and counts as full. Else prove '..UptoSaid'. A law counts once. -/
mutual
def uptoBulk {H : Type} : DataW H → Nat
  | .lit (.string bytes) => bytes.length + 1
  | .lit _ => 1
  | .nil => 1
  | .ptr d => uptoBulk d + 1
  | .slice elems spare => uptoBulkAll elems + uptoBulkAll spare + 1
  | .agg parts => uptoBulkAll parts + 1
  | .iface _ d => uptoBulk d + 1
  | .map entries => uptoBulkEntries entries + 1
  | .held _ => 1
def uptoBulkAll {H : Type} : List (DataW H) → Nat
  | [] => 0
  | d :: r => uptoBulk d + uptoBulkAll r
def uptoBulkEntries {H : Type} : List (Lit × DataW H) → Nat
  | [] => 0
  | x :: r => uptoBulkEntry x + uptoBulkEntries r
def uptoBulkEntry {H : Type} : Lit × DataW H → Nat
  | (.string bytes, d) => bytes.length + uptoBulk d + 1
  | (_, d) => uptoBulk d + 1
 end
def uptoSmall : (H : Type) → List (DataW H) → Bool := fun _ ds => decide (uptoBulkAll ds ≤ 1048576)
def OpenSpec.upto (s : _root_.Go.ChangeSpec) : _root_.Go.OpenSpec := { _root_.Go.OpenSpec.ofChange s with cond := some uptoSmall }

/-- 'accesscontrollaw25.BinaryEncodes', WHERE WHAT IT READS IS OF BULK AT MOST 1048576: true; the input reads as it did. -/
def binaryEncodesUptoRow : OpenClaim := { program := "ytkkmjdceiocnbaagreatdoor", sum := "968a3abf2d0c8d1a894fc4bed77523abaacf1ef0929710613998e1b06b6e8523", func := "accesscontrol/accesscontrollaw25.BinaryEncodes", spec := "binaryEncodes", inPlace := ["internal/bytealg.IndexByteString"], unfollowed := true, recurses := true, named := ["bytes.ErrTooLarge"], loops := true, apart := false, laid := [("bytes.ErrTooLarge", laid_bytes_ErrTooLarge)], narrowed := true }
def BinaryEncodesUptoSaid : Prop := binaryEncodesUptoRow.holds Tryz.pinned (OpenSpec.upto binaryEncodesSpec)

/-- 'accesscontrollaw25.BinaryDecodes', WHERE WHAT IT READS IS OF BULK AT MOST 1048576: true; the input reads as it did. -/
def binaryDecodesUptoRow : OpenClaim := { program := "ytkkmjdceiocnbaagreatdoor", sum := "968a3abf2d0c8d1a894fc4bed77523abaacf1ef0929710613998e1b06b6e8523", func := "accesscontrol/accesscontrollaw25.BinaryDecodes", spec := "binaryDecodes", inPlace := ["internal/bytealg.IndexByteString"], unfollowed := true, recurses := true, named := ["bytes.ErrTooLarge"], apart := false, laid := [("bytes.ErrTooLarge", laid_bytes_ErrTooLarge)], narrowed := true }
def BinaryDecodesUptoSaid : Prop := binaryDecodesUptoRow.holds Tryz.pinned (OpenSpec.upto binaryDecodesSpec)

/-- 'accesscontrollaw25.BinaryRoundTrip', WHERE WHAT IT READS IS OF BULK AT MOST 1048576: true; the input reads as it did. -/
def binaryRoundTripUptoRow : OpenClaim := { program := "ytkkmjdceiocnbaagreatdoor", sum := "968a3abf2d0c8d1a894fc4bed77523abaacf1ef0929710613998e1b06b6e8523", func := "accesscontrol/accesscontrollaw25.BinaryRoundTrip", spec := "binaryRoundTrip", inPlace := ["internal/bytealg.IndexByteString"], unfollowed := true, recurses := true, named := ["bytes.ErrTooLarge"], loops := true, apart := false, laid := [("bytes.ErrTooLarge", laid_bytes_ErrTooLarge)], narrowed := true }
def BinaryRoundTripUptoSaid : Prop := binaryRoundTripUptoRow.holds Tryz.pinned (OpenSpec.upto binaryRoundTripSpec)

/-- 'accesscontrollaw25.BinaryCanonical', WHERE WHAT IT READS IS OF BULK AT MOST 1048576: true; the input reads as it did. -/
def binaryCanonicalUptoRow : OpenClaim := { program := "ytkkmjdceiocnbaagreatdoor", sum := "968a3abf2d0c8d1a894fc4bed77523abaacf1ef0929710613998e1b06b6e8523", func := "accesscontrol/accesscontrollaw25.BinaryCanonical", spec := "binaryCanonical", inPlace := ["internal/bytealg.IndexByteString"], unfollowed := true, recurses := true, named := ["bytes.ErrTooLarge"], apart := false, laid := [("bytes.ErrTooLarge", laid_bytes_ErrTooLarge)], narrowed := true }
def BinaryCanonicalUptoSaid : Prop := binaryCanonicalUptoRow.holds Tryz.pinned (OpenSpec.upto binaryCanonicalSpec)

/-- 'accesscontrollaw25.BinaryVersions', WHERE WHAT IT READS IS OF BULK AT MOST 1048576: true; the input reads as it did. -/
def binaryVersionsUptoRow : OpenClaim := { program := "ytkkmjdceiocnbaagreatdoor", sum := "968a3abf2d0c8d1a894fc4bed77523abaacf1ef0929710613998e1b06b6e8523", func := "accesscontrol/accesscontrollaw25.BinaryVersions", spec := "binaryVersions", inPlace := ["internal/bytealg.IndexByteString"], unfollowed := true, recurses := true, named := ["bytes.ErrTooLarge"], loops := true, apart := false, laid := [("bytes.ErrTooLarge", laid_bytes_ErrTooLarge)], narrowed := true }
def BinaryVersionsUptoSaid : Prop := binaryVersionsUptoRow.holds Tryz.pinned (OpenSpec.upto binaryVersionsSpec)

/-- 'accesscontrollaw25.BinaryDamage', WHERE WHAT IT READS IS OF BULK AT MOST 1048576: true; the input reads as it did. -/
def binaryDamageUptoRow : OpenClaim := { program := "ytkkmjdceiocnbaagreatdoor", sum := "968a3abf2d0c8d1a894fc4bed77523abaacf1ef0929710613998e1b06b6e8523", func := "accesscontrol/accesscontrollaw25.BinaryDamage", spec := "binaryDamage", inPlace := ["internal/bytealg.IndexByteString"], unfollowed := true, recurses := true, named := ["bytes.ErrTooLarge"], loops := true, apart := false, laid := [("bytes.ErrTooLarge", laid_bytes_ErrTooLarge)], narrowed := true }
def BinaryDamageUptoSaid : Prop := binaryDamageUptoRow.holds Tryz.pinned (OpenSpec.upto binaryDamageSpec)

/-- 'accesscontrollaw25.BinaryDecides', WHERE WHAT IT READS IS OF BULK AT MOST 1048576: true; the input reads as it did. -/
def binaryDecidesUptoRow : OpenClaim := { program := "ytkkmjdceiocnbaagreatdoor", sum := "968a3abf2d0c8d1a894fc4bed77523abaacf1ef0929710613998e1b06b6e8523", func := "accesscontrol/accesscontrollaw25.BinaryDecides", spec := "binaryDecides", inPlace := ["internal/bytealg.IndexByteString"], unfollowed := true, recurses := true, named := ["bytes.ErrTooLarge"], loops := true, apart := false, laid := [("bytes.ErrTooLarge", laid_bytes_ErrTooLarge)], narrowed := true }
def BinaryDecidesUptoSaid : Prop := binaryDecidesUptoRow.holds Tryz.pinned (OpenSpec.upto binaryDecidesSpec)

/-- 'accesscontrollaw25.BinaryDowngrades', WHERE WHAT IT READS IS OF BULK AT MOST 1048576: true; the input reads as it did. -/
def binaryDowngradesUptoRow : OpenClaim := { program := "ytkkmjdceiocnbaagreatdoor", sum := "968a3abf2d0c8d1a894fc4bed77523abaacf1ef0929710613998e1b06b6e8523", func := "accesscontrol/accesscontrollaw25.BinaryDowngrades", spec := "binaryDowngrades", inPlace := ["internal/bytealg.IndexByteString"], unfollowed := true, recurses := true, named := ["bytes.ErrTooLarge"], loops := true, apart := false, laid := [("bytes.ErrTooLarge", laid_bytes_ErrTooLarge)], narrowed := true }
def BinaryDowngradesUptoSaid : Prop := binaryDowngradesUptoRow.holds Tryz.pinned (OpenSpec.upto binaryDowngradesSpec)

end Rows
end Go.Proofs.YtkkmjdceiocnbaaGreatDoor
