/-
  No cell of these rows narrows 'for every input' (looked for: loops, veiled, ifaces, maps, wideKeys, modest, calm, conditions, laid).
  DERIVED. THE GIVEN ROWS OF THIS SEAT. 5 by the template 'for every input the law returns true; each argument reads behind the call as it read before'; 0 by the template 'total and deterministic' (their statements: YtlkkdpoliafjbaaTotals.lean).
  GIVEN WITH THE SEED: the statements are not yours to turn. If you find one false, say at which input.
  Laid BY PROGRAM, IN A SANDBOX (cutbox-rows.mjs): the forced cells as the released guide's own fill.sh prints them over the translation 66d973976fa77112… (all of the seat's roots in one cut). By AI agents, Wed Nov 11 2026. No macro, syntax, notation, axiom, sorry.
-/
import Derived.Test.YtlkkdpoliafjbaaChecked
import GoSem.Claim
import GoSem.ClaimJoined
import GoSem.ClaimMapViews
import Derived.JoinedTies
import Derived.KernelRfl
namespace Go.Proofs.Ytlkkdpoliafjbaa
/- THE CELL 'sum', in the pinned program and in every row, IS THE sha256 OF THE DUMP (.gsa) THAT YtlkkdpoliafjbaaProg.lean LOADS. Nothing in Lean hashes anything: it is a label: what it is worth is what the hold of that sum in a sandbox is worth. -/
noncomputable def Try.pinned : Pinned := { name := "ytlkkdpoliafjbaa", sum := "66d973976fa771129d1acd64f81f07b6c9ed68aaf1fc7b72ac64bd8c3abb4df4", checked := Try.checked }
namespace Rows
def none {H : Type} : Left H := { results := [], args := [] }

/-- 'accesscontrollaw16.AvtabFinds': WHATEVER THE INPUT: true; the input reads as it did. -/
def avtabFindsSpec : ChangeSpec := { name := "avtabFinds", fn := fun _ => fun
  | [d1, d2, d3] => { results := [.lit (.bool true)], args := [d1, d2, d3] }
  | _ => none }
def avtabFindsRow : OpenClaim := { program := "ytlkkdpoliafjbaa", sum := "66d973976fa771129d1acd64f81f07b6c9ed68aaf1fc7b72ac64bd8c3abb4df4", func := "accesscontrol/accesscontrollaw16.AvtabFinds", spec := "avtabFinds", inPlace := ["slices.overlaps[accesscontrol/avtab.key]"], unfollowed := true, recurses := true, plainKeys := false, apart := false }
def AvtabFindsSaid : Prop := avtabFindsRow.holds Try.pinned (OpenSpec.ofChange avtabFindsSpec)

/-- ITS FALSE NEIGHBOUR: 'it returns false'. Refute it at one input. -/
def avtabFindsWrong : ChangeSpec := { name := "avtabFinds", fn := fun _ => fun
  | [d1, d2, d3] => { results := [.lit (.bool false)], args := [d1, d2, d3] }
  | _ => none }
def AvtabFindsWrongFalsely : Prop := avtabFindsRow.holds Try.pinned (OpenSpec.ofChange avtabFindsWrong)

/-- 'accesscontrollaw16.AvtabOrder': WHATEVER THE INPUT: true; the input reads as it did. -/
def avtabOrderSpec : ChangeSpec := { name := "avtabOrder", fn := fun _ => fun
  | [d1, d2, d3] => { results := [.lit (.bool true)], args := [d1, d2, d3] }
  | _ => none }
def avtabOrderRow : OpenClaim := { program := "ytlkkdpoliafjbaa", sum := "66d973976fa771129d1acd64f81f07b6c9ed68aaf1fc7b72ac64bd8c3abb4df4", func := "accesscontrol/accesscontrollaw16.AvtabOrder", spec := "avtabOrder", inPlace := ["slices.overlaps[accesscontrol/avtab.key]"], unfollowed := true, recurses := true, plainKeys := false, apart := false }
def AvtabOrderSaid : Prop := avtabOrderRow.holds Try.pinned (OpenSpec.ofChange avtabOrderSpec)

/-- ITS FALSE NEIGHBOUR: 'it returns false'. Refute it at one input. -/
def avtabOrderWrong : ChangeSpec := { name := "avtabOrder", fn := fun _ => fun
  | [d1, d2, d3] => { results := [.lit (.bool false)], args := [d1, d2, d3] }
  | _ => none }
def AvtabOrderWrongFalsely : Prop := avtabOrderRow.holds Try.pinned (OpenSpec.ofChange avtabOrderWrong)

/-- 'accesscontrollaw16.AvtabMerges': WHATEVER THE INPUT: true; the input reads as it did. -/
def avtabMergesSpec : ChangeSpec := { name := "avtabMerges", fn := fun _ => fun
  | [d1, d2] => { results := [.lit (.bool true)], args := [d1, d2] }
  | _ => none }
def avtabMergesRow : OpenClaim := { program := "ytlkkdpoliafjbaa", sum := "66d973976fa771129d1acd64f81f07b6c9ed68aaf1fc7b72ac64bd8c3abb4df4", func := "accesscontrol/accesscontrollaw16.AvtabMerges", spec := "avtabMerges", inPlace := ["slices.overlaps[accesscontrol/avtab.key]"], unfollowed := true, recurses := true, plainKeys := false, apart := false }
def AvtabMergesSaid : Prop := avtabMergesRow.holds Try.pinned (OpenSpec.ofChange avtabMergesSpec)

/-- ITS FALSE NEIGHBOUR: 'it returns false'. Refute it at one input. -/
def avtabMergesWrong : ChangeSpec := { name := "avtabMerges", fn := fun _ => fun
  | [d1, d2] => { results := [.lit (.bool false)], args := [d1, d2] }
  | _ => none }
def AvtabMergesWrongFalsely : Prop := avtabMergesRow.holds Try.pinned (OpenSpec.ofChange avtabMergesWrong)

/-- 'accesscontrollaw16.AvtabCopies': WHATEVER THE INPUT: true; the input reads as it did. -/
def avtabCopiesSpec : ChangeSpec := { name := "avtabCopies", fn := fun _ => fun
  | [d1, d2, d3] => { results := [.lit (.bool true)], args := [d1, d2, d3] }
  | _ => none }
def avtabCopiesRow : OpenClaim := { program := "ytlkkdpoliafjbaa", sum := "66d973976fa771129d1acd64f81f07b6c9ed68aaf1fc7b72ac64bd8c3abb4df4", func := "accesscontrol/accesscontrollaw16.AvtabCopies", spec := "avtabCopies", inPlace := ["slices.overlaps[accesscontrol/avtab.key]"], unfollowed := true, recurses := true, plainKeys := false, apart := false }
def AvtabCopiesSaid : Prop := avtabCopiesRow.holds Try.pinned (OpenSpec.ofChange avtabCopiesSpec)

/-- ITS FALSE NEIGHBOUR: 'it returns false'. Refute it at one input. -/
def avtabCopiesWrong : ChangeSpec := { name := "avtabCopies", fn := fun _ => fun
  | [d1, d2, d3] => { results := [.lit (.bool false)], args := [d1, d2, d3] }
  | _ => none }
def AvtabCopiesWrongFalsely : Prop := avtabCopiesRow.holds Try.pinned (OpenSpec.ofChange avtabCopiesWrong)

/-- 'accesscontrollaw16.AvtabNil': WHATEVER THE INPUT: true; the input reads as it did. -/
def avtabNilSpec : ChangeSpec := { name := "avtabNil", fn := fun _ => fun
  | [d1, d2] => { results := [.lit (.bool true)], args := [d1, d2] }
  | _ => none }
def avtabNilRow : OpenClaim := { program := "ytlkkdpoliafjbaa", sum := "66d973976fa771129d1acd64f81f07b6c9ed68aaf1fc7b72ac64bd8c3abb4df4", func := "accesscontrol/accesscontrollaw16.AvtabNil", spec := "avtabNil", inPlace := ["slices.overlaps[accesscontrol/avtab.key]"], unfollowed := true, recurses := true, plainKeys := false, apart := false }
def AvtabNilSaid : Prop := avtabNilRow.holds Try.pinned (OpenSpec.ofChange avtabNilSpec)

/-- ITS FALSE NEIGHBOUR: 'it returns false'. Refute it at one input. -/
def avtabNilWrong : ChangeSpec := { name := "avtabNil", fn := fun _ => fun
  | [d1, d2] => { results := [.lit (.bool false)], args := [d1, d2] }
  | _ => none }
def AvtabNilWrongFalsely : Prop := avtabNilRow.holds Try.pinned (OpenSpec.ofChange avtabNilWrong)

/- THE SECOND FORM. 'bulk': how many values and letters a reading holds, each counted each time it is reached (what is shared counts as often as it is met; a slice's spare places count too). A statement '..UptoSaid' is the law's where the arguments, and the package variables that the reading takes, are together of bulk at most 1048576: NARROWER than '..Said'. Prove '..Said' where nothing that the law and all that it calls make is longer than what came in: it says more and counts as full. Else prove '..UptoSaid'. A law counts once. -/
mutual
def uptoBulk {H : Type} : DataW H → Nat
  | .lit (.string bytes) => bytes.length + 1
  | .lit _ => 1
  | .nil => 1
  | .ptr d => uptoBulk d + 1
  | .slice elems spare => uptoBulkAll elems + uptoBulkAll spare + 1
  | .agg parts => uptoBulkAll parts + 1
  | .iface _ d => uptoBulk d + 1
  | .map entries => uptoBulkEntries entries + 1
  | .held _ => 1
def uptoBulkAll {H : Type} : List (DataW H) → Nat
  | [] => 0
  | d :: r => uptoBulk d + uptoBulkAll r
def uptoBulkEntries {H : Type} : List (Lit × DataW H) → Nat
  | [] => 0
  | x :: r => uptoBulkEntry x + uptoBulkEntries r
def uptoBulkEntry {H : Type} : Lit × DataW H → Nat
  | (.string bytes, d) => bytes.length + uptoBulk d + 1
  | (_, d) => uptoBulk d + 1
 end
def uptoSmall : (H : Type) → List (DataW H) → Bool := fun _ ds => decide (uptoBulkAll ds ≤ 1048576)
def OpenSpec.upto (s : _root_.Go.ChangeSpec) : _root_.Go.OpenSpec := { _root_.Go.OpenSpec.ofChange s with cond := some uptoSmall }

/-- 'accesscontrollaw16.AvtabFinds', WHERE WHAT IT READS IS OF BULK AT MOST 1048576: true; the input reads as it did. -/
def avtabFindsUptoRow : OpenClaim := { program := "ytlkkdpoliafjbaa", sum := "66d973976fa771129d1acd64f81f07b6c9ed68aaf1fc7b72ac64bd8c3abb4df4", func := "accesscontrol/accesscontrollaw16.AvtabFinds", spec := "avtabFinds", inPlace := ["slices.overlaps[accesscontrol/avtab.key]"], unfollowed := true, recurses := true, plainKeys := false, apart := false, narrowed := true }
def AvtabFindsUptoSaid : Prop := avtabFindsUptoRow.holds Try.pinned (OpenSpec.upto avtabFindsSpec)

/-- 'accesscontrollaw16.AvtabOrder', WHERE WHAT IT READS IS OF BULK AT MOST 1048576: true; the input reads as it did. -/
def avtabOrderUptoRow : OpenClaim := { program := "ytlkkdpoliafjbaa", sum := "66d973976fa771129d1acd64f81f07b6c9ed68aaf1fc7b72ac64bd8c3abb4df4", func := "accesscontrol/accesscontrollaw16.AvtabOrder", spec := "avtabOrder", inPlace := ["slices.overlaps[accesscontrol/avtab.key]"], unfollowed := true, recurses := true, plainKeys := false, apart := false, narrowed := true }
def AvtabOrderUptoSaid : Prop := avtabOrderUptoRow.holds Try.pinned (OpenSpec.upto avtabOrderSpec)

/-- 'accesscontrollaw16.AvtabMerges', WHERE WHAT IT READS IS OF BULK AT MOST 1048576: true; the input reads as it did. -/
def avtabMergesUptoRow : OpenClaim := { program := "ytlkkdpoliafjbaa", sum := "66d973976fa771129d1acd64f81f07b6c9ed68aaf1fc7b72ac64bd8c3abb4df4", func := "accesscontrol/accesscontrollaw16.AvtabMerges", spec := "avtabMerges", inPlace := ["slices.overlaps[accesscontrol/avtab.key]"], unfollowed := true, recurses := true, plainKeys := false, apart := false, narrowed := true }
def AvtabMergesUptoSaid : Prop := avtabMergesUptoRow.holds Try.pinned (OpenSpec.upto avtabMergesSpec)

/-- 'accesscontrollaw16.AvtabCopies', WHERE WHAT IT READS IS OF BULK AT MOST 1048576: true; the input reads as it did. -/
def avtabCopiesUptoRow : OpenClaim := { program := "ytlkkdpoliafjbaa", sum := "66d973976fa771129d1acd64f81f07b6c9ed68aaf1fc7b72ac64bd8c3abb4df4", func := "accesscontrol/accesscontrollaw16.AvtabCopies", spec := "avtabCopies", inPlace := ["slices.overlaps[accesscontrol/avtab.key]"], unfollowed := true, recurses := true, plainKeys := false, apart := false, narrowed := true }
def AvtabCopiesUptoSaid : Prop := avtabCopiesUptoRow.holds Try.pinned (OpenSpec.upto avtabCopiesSpec)

/-- 'accesscontrollaw16.AvtabNil', WHERE WHAT IT READS IS OF BULK AT MOST 1048576: true; the input reads as it did. -/
def avtabNilUptoRow : OpenClaim := { program := "ytlkkdpoliafjbaa", sum := "66d973976fa771129d1acd64f81f07b6c9ed68aaf1fc7b72ac64bd8c3abb4df4", func := "accesscontrol/accesscontrollaw16.AvtabNil", spec := "avtabNil", inPlace := ["slices.overlaps[accesscontrol/avtab.key]"], unfollowed := true, recurses := true, plainKeys := false, apart := false, narrowed := true }
def AvtabNilUptoSaid : Prop := avtabNilUptoRow.holds Try.pinned (OpenSpec.upto avtabNilSpec)

end Rows
end Go.Proofs.Ytlkkdpoliafjbaa
