/-
  NARROWER THAN 'FOR EVERY INPUT', by the rows' own cells (each row's printed sentence says how): ExpandPairs: laid · ExpandExact: loops, laid · ExpandMerges: laid · ExpandNever: loops, laid · ExpandRules: laid · ExpandCompresses: laid · ExpandOrder: loops, laid.
  DERIVED. THE GIVEN ROWS OF THIS SEAT. 7 by the template 'for every input the law returns true; each argument reads behind the call as it read before'; 0 by the template 'total and deterministic' (their statements: YtmkfabdkadocdaaDoorTotals.lean).
  GIVEN WITH THE SEED: the statements are not yours to turn. If you find one false, say at which input.
  Laid BY PROGRAM, IN A SANDBOX (cutbox-rows.mjs): the forced cells as the released guide's own fill.sh prints them over the translation ca94a0a3ce803451… (all of the seat's roots in one cut). By AI agents, Wed Nov 11 2026. No macro, syntax, notation, axiom, sorry.
-/
import Derived.Test.YtmkfabdkadocdaaDoorChecked
import GoSem.Claim
import GoSem.ClaimJoined
import GoSem.ClaimMapViews
import Derived.JoinedTies
import Derived.KernelRfl
namespace Go.Proofs.YtmkfabdkadocdaaDoor
/- THE CELL 'sum', in the pinned program and in every row, IS THE sha256 OF THE DUMP (.gsa) THAT YtmkfabdkadocdaaDoorProg.lean LOADS. Nothing in Lean hashes anything: it is a label: what it is worth is what the hold of that sum in a sandbox is worth. -/
noncomputable def Tryd.pinned : Pinned := { name := "ytmkfabdkadocdaadoor", sum := "ca94a0a3ce803451f78ae0f39386de0e5c68b56601ae0f19ea543785e8e072cf", checked := Tryd.checked }
namespace Rows
def none {H : Type} : Left H := { results := [], args := [] }

/- WHAT THE LISTED PACKAGE-LEVEL VARIABLES READ AS WHEN THE CALL BEGINS. Each datum BY PROGRAM (the guide's laid-datum.mjs) off the statement by which the dump's own 'gosem.cut.vars' lays the variable. In a bare row this is a premise. The card (YtmkfabdkadocdaaDoorCards.lean) ties it to the program's text. -/
def laid_math_bits_deBruijn64tab {H : Type} : DataW H := .agg [.lit (.int .u8 0), .lit (.int .u8 1), .lit (.int .u8 56), .lit (.int .u8 2), .lit (.int .u8 57), .lit (.int .u8 49), .lit (.int .u8 28), .lit (.int .u8 3), .lit (.int .u8 61), .lit (.int .u8 58), .lit (.int .u8 42), .lit (.int .u8 50), .lit (.int .u8 38), .lit (.int .u8 29), .lit (.int .u8 17), .lit (.int .u8 4), .lit (.int .u8 62), .lit (.int .u8 47), .lit (.int .u8 59), .lit (.int .u8 36), .lit (.int .u8 45), .lit (.int .u8 43), .lit (.int .u8 51), .lit (.int .u8 22), .lit (.int .u8 53), .lit (.int .u8 39), .lit (.int .u8 33), .lit (.int .u8 30), .lit (.int .u8 24), .lit (.int .u8 18), .lit (.int .u8 12), .lit (.int .u8 5), .lit (.int .u8 63), .lit (.int .u8 55), .lit (.int .u8 48), .lit (.int .u8 27), .lit (.int .u8 60), .lit (.int .u8 41), .lit (.int .u8 37), .lit (.int .u8 16), .lit (.int .u8 46), .lit (.int .u8 35), .lit (.int .u8 44), .lit (.int .u8 21), .lit (.int .u8 52), .lit (.int .u8 32), .lit (.int .u8 23), .lit (.int .u8 11), .lit (.int .u8 54), .lit (.int .u8 26), .lit (.int .u8 40), .lit (.int .u8 15), .lit (.int .u8 34), .lit (.int .u8 20), .lit (.int .u8 31), .lit (.int .u8 10), .lit (.int .u8 25), .lit (.int .u8 14), .lit (.int .u8 19), .lit (.int .u8 9), .lit (.int .u8 13), .lit (.int .u8 8), .lit (.int .u8 7), .lit (.int .u8 6)]

/-- 'accesscontrollaw15.ExpandPairs': WHATEVER THE INPUT: true; the input reads as it did. -/
def expandPairsSpec : ChangeSpec := { name := "expandPairs", fn := fun _ => fun
  | [d] => { results := [.lit (.bool true)], args := [d] }
  | _ => none }
def expandPairsRow : OpenClaim := { program := "ytmkfabdkadocdaadoor", sum := "ca94a0a3ce803451f78ae0f39386de0e5c68b56601ae0f19ea543785e8e072cf", func := "accesscontrol/accesscontrollaw15.ExpandPairs", spec := "expandPairs", unfollowed := true, recurses := true, named := ["math/bits.deBruijn64tab"], plainKeys := false, apart := false, laid := [("math/bits.deBruijn64tab", laid_math_bits_deBruijn64tab)] }
def ExpandPairsSaid : Prop := expandPairsRow.holds Tryd.pinned (OpenSpec.ofChange expandPairsSpec)

/-- ITS FALSE NEIGHBOUR: 'it returns false'. Refute it at one input. -/
def expandPairsWrong : ChangeSpec := { name := "expandPairs", fn := fun _ => fun
  | [d] => { results := [.lit (.bool false)], args := [d] }
  | _ => none }
def ExpandPairsWrongFalsely : Prop := expandPairsRow.holds Tryd.pinned (OpenSpec.ofChange expandPairsWrong)

/-- 'accesscontrollaw15.ExpandExact': WHATEVER THE INPUT: true; the input reads as it did. -/
def expandExactSpec : ChangeSpec := { name := "expandExact", fn := fun _ => fun
  | [d] => { results := [.lit (.bool true)], args := [d] }
  | _ => none }
def expandExactRow : OpenClaim := { program := "ytmkfabdkadocdaadoor", sum := "ca94a0a3ce803451f78ae0f39386de0e5c68b56601ae0f19ea543785e8e072cf", func := "accesscontrol/accesscontrollaw15.ExpandExact", spec := "expandExact", unfollowed := true, recurses := true, named := ["math/bits.deBruijn64tab"], loops := true, plainKeys := false, apart := false, laid := [("math/bits.deBruijn64tab", laid_math_bits_deBruijn64tab)] }
def ExpandExactSaid : Prop := expandExactRow.holds Tryd.pinned (OpenSpec.ofChange expandExactSpec)

/-- ITS FALSE NEIGHBOUR: 'it returns false'. Refute it at one input. -/
def expandExactWrong : ChangeSpec := { name := "expandExact", fn := fun _ => fun
  | [d] => { results := [.lit (.bool false)], args := [d] }
  | _ => none }
def ExpandExactWrongFalsely : Prop := expandExactRow.holds Tryd.pinned (OpenSpec.ofChange expandExactWrong)

/-- 'accesscontrollaw15.ExpandMerges': WHATEVER THE INPUT: true; the input reads as it did. -/
def expandMergesSpec : ChangeSpec := { name := "expandMerges", fn := fun _ => fun
  | [d] => { results := [.lit (.bool true)], args := [d] }
  | _ => none }
def expandMergesRow : OpenClaim := { program := "ytmkfabdkadocdaadoor", sum := "ca94a0a3ce803451f78ae0f39386de0e5c68b56601ae0f19ea543785e8e072cf", func := "accesscontrol/accesscontrollaw15.ExpandMerges", spec := "expandMerges", unfollowed := true, recurses := true, named := ["math/bits.deBruijn64tab"], plainKeys := false, apart := false, laid := [("math/bits.deBruijn64tab", laid_math_bits_deBruijn64tab)] }
def ExpandMergesSaid : Prop := expandMergesRow.holds Tryd.pinned (OpenSpec.ofChange expandMergesSpec)

/-- ITS FALSE NEIGHBOUR: 'it returns false'. Refute it at one input. -/
def expandMergesWrong : ChangeSpec := { name := "expandMerges", fn := fun _ => fun
  | [d] => { results := [.lit (.bool false)], args := [d] }
  | _ => none }
def ExpandMergesWrongFalsely : Prop := expandMergesRow.holds Tryd.pinned (OpenSpec.ofChange expandMergesWrong)

/-- 'accesscontrollaw15.ExpandNever': WHATEVER THE INPUT: true; the input reads as it did. -/
def expandNeverSpec : ChangeSpec := { name := "expandNever", fn := fun _ => fun
  | [d] => { results := [.lit (.bool true)], args := [d] }
  | _ => none }
def expandNeverRow : OpenClaim := { program := "ytmkfabdkadocdaadoor", sum := "ca94a0a3ce803451f78ae0f39386de0e5c68b56601ae0f19ea543785e8e072cf", func := "accesscontrol/accesscontrollaw15.ExpandNever", spec := "expandNever", unfollowed := true, recurses := true, named := ["math/bits.deBruijn64tab"], loops := true, plainKeys := false, apart := false, laid := [("math/bits.deBruijn64tab", laid_math_bits_deBruijn64tab)] }
def ExpandNeverSaid : Prop := expandNeverRow.holds Tryd.pinned (OpenSpec.ofChange expandNeverSpec)

/-- ITS FALSE NEIGHBOUR: 'it returns false'. Refute it at one input. -/
def expandNeverWrong : ChangeSpec := { name := "expandNever", fn := fun _ => fun
  | [d] => { results := [.lit (.bool false)], args := [d] }
  | _ => none }
def ExpandNeverWrongFalsely : Prop := expandNeverRow.holds Tryd.pinned (OpenSpec.ofChange expandNeverWrong)

/-- 'accesscontrollaw15.ExpandRules': WHATEVER THE INPUT: true; the input reads as it did. -/
def expandRulesSpec : ChangeSpec := { name := "expandRules", fn := fun _ => fun
  | [d] => { results := [.lit (.bool true)], args := [d] }
  | _ => none }
def expandRulesRow : OpenClaim := { program := "ytmkfabdkadocdaadoor", sum := "ca94a0a3ce803451f78ae0f39386de0e5c68b56601ae0f19ea543785e8e072cf", func := "accesscontrol/accesscontrollaw15.ExpandRules", spec := "expandRules", unfollowed := true, recurses := true, named := ["math/bits.deBruijn64tab"], plainKeys := false, apart := false, laid := [("math/bits.deBruijn64tab", laid_math_bits_deBruijn64tab)] }
def ExpandRulesSaid : Prop := expandRulesRow.holds Tryd.pinned (OpenSpec.ofChange expandRulesSpec)

/-- ITS FALSE NEIGHBOUR: 'it returns false'. Refute it at one input. -/
def expandRulesWrong : ChangeSpec := { name := "expandRules", fn := fun _ => fun
  | [d] => { results := [.lit (.bool false)], args := [d] }
  | _ => none }
def ExpandRulesWrongFalsely : Prop := expandRulesRow.holds Tryd.pinned (OpenSpec.ofChange expandRulesWrong)

/-- 'accesscontrollaw15.ExpandCompresses': WHATEVER THE INPUT: true; the input reads as it did. -/
def expandCompressesSpec : ChangeSpec := { name := "expandCompresses", fn := fun _ => fun
  | [d] => { results := [.lit (.bool true)], args := [d] }
  | _ => none }
def expandCompressesRow : OpenClaim := { program := "ytmkfabdkadocdaadoor", sum := "ca94a0a3ce803451f78ae0f39386de0e5c68b56601ae0f19ea543785e8e072cf", func := "accesscontrol/accesscontrollaw15.ExpandCompresses", spec := "expandCompresses", unfollowed := true, recurses := true, named := ["math/bits.deBruijn64tab"], plainKeys := false, apart := false, laid := [("math/bits.deBruijn64tab", laid_math_bits_deBruijn64tab)] }
def ExpandCompressesSaid : Prop := expandCompressesRow.holds Tryd.pinned (OpenSpec.ofChange expandCompressesSpec)

/-- ITS FALSE NEIGHBOUR: 'it returns false'. Refute it at one input. -/
def expandCompressesWrong : ChangeSpec := { name := "expandCompresses", fn := fun _ => fun
  | [d] => { results := [.lit (.bool false)], args := [d] }
  | _ => none }
def ExpandCompressesWrongFalsely : Prop := expandCompressesRow.holds Tryd.pinned (OpenSpec.ofChange expandCompressesWrong)

/-- 'accesscontrollaw15.ExpandOrder': WHATEVER THE INPUT: true; the input reads as it did. -/
def expandOrderSpec : ChangeSpec := { name := "expandOrder", fn := fun _ => fun
  | [d1, d2, d3] => { results := [.lit (.bool true)], args := [d1, d2, d3] }
  | _ => none }
def expandOrderRow : OpenClaim := { program := "ytmkfabdkadocdaadoor", sum := "ca94a0a3ce803451f78ae0f39386de0e5c68b56601ae0f19ea543785e8e072cf", func := "accesscontrol/accesscontrollaw15.ExpandOrder", spec := "expandOrder", unfollowed := true, recurses := true, named := ["math/bits.deBruijn64tab"], loops := true, plainKeys := false, apart := false, laid := [("math/bits.deBruijn64tab", laid_math_bits_deBruijn64tab)] }
def ExpandOrderSaid : Prop := expandOrderRow.holds Tryd.pinned (OpenSpec.ofChange expandOrderSpec)

/-- ITS FALSE NEIGHBOUR: 'it returns false'. Refute it at one input. -/
def expandOrderWrong : ChangeSpec := { name := "expandOrder", fn := fun _ => fun
  | [d1, d2, d3] => { results := [.lit (.bool false)], args := [d1, d2, d3] }
  | _ => none }
def ExpandOrderWrongFalsely : Prop := expandOrderRow.holds Tryd.pinned (OpenSpec.ofChange expandOrderWrong)

/- THE SECOND FORM. 'bulk': how many values and letters a reading holds, each counted each time it is reached (what is shared counts as often as it is met; a slice's spare places count too). A statement '..UptoSaid' is the law's where the arguments, and the package variables that the reading takes, are together of bulk at most 1048576: NARROWER than '..Said'. Prove '..Said' where nothing that the law and all that it calls make is longer than what came in: it says more and counts as full. Else prove '..UptoSaid'. A law counts once. -/
mutual
def uptoBulk {H : Type} : DataW H → Nat
  | .lit (.string bytes) => bytes.length + 1
  | .lit _ => 1
  | .nil => 1
  | .ptr d => uptoBulk d + 1
  | .slice elems spare => uptoBulkAll elems + uptoBulkAll spare + 1
  | .agg parts => uptoBulkAll parts + 1
  | .iface _ d => uptoBulk d + 1
  | .map entries => uptoBulkEntries entries + 1
  | .held _ => 1
def uptoBulkAll {H : Type} : List (DataW H) → Nat
  | [] => 0
  | d :: r => uptoBulk d + uptoBulkAll r
def uptoBulkEntries {H : Type} : List (Lit × DataW H) → Nat
  | [] => 0
  | x :: r => uptoBulkEntry x + uptoBulkEntries r
def uptoBulkEntry {H : Type} : Lit × DataW H → Nat
  | (.string bytes, d) => bytes.length + uptoBulk d + 1
  | (_, d) => uptoBulk d + 1
 end
def uptoSmall : (H : Type) → List (DataW H) → Bool := fun _ ds => decide (uptoBulkAll ds ≤ 1048576)
def OpenSpec.upto (s : _root_.Go.ChangeSpec) : _root_.Go.OpenSpec := { _root_.Go.OpenSpec.ofChange s with cond := some uptoSmall }

/-- 'accesscontrollaw15.ExpandPairs', WHERE WHAT IT READS IS OF BULK AT MOST 1048576: true; the input reads as it did. -/
def expandPairsUptoRow : OpenClaim := { program := "ytmkfabdkadocdaadoor", sum := "ca94a0a3ce803451f78ae0f39386de0e5c68b56601ae0f19ea543785e8e072cf", func := "accesscontrol/accesscontrollaw15.ExpandPairs", spec := "expandPairs", unfollowed := true, recurses := true, named := ["math/bits.deBruijn64tab"], plainKeys := false, apart := false, laid := [("math/bits.deBruijn64tab", laid_math_bits_deBruijn64tab)], narrowed := true }
def ExpandPairsUptoSaid : Prop := expandPairsUptoRow.holds Tryd.pinned (OpenSpec.upto expandPairsSpec)

/-- 'accesscontrollaw15.ExpandExact', WHERE WHAT IT READS IS OF BULK AT MOST 1048576: true; the input reads as it did. -/
def expandExactUptoRow : OpenClaim := { program := "ytmkfabdkadocdaadoor", sum := "ca94a0a3ce803451f78ae0f39386de0e5c68b56601ae0f19ea543785e8e072cf", func := "accesscontrol/accesscontrollaw15.ExpandExact", spec := "expandExact", unfollowed := true, recurses := true, named := ["math/bits.deBruijn64tab"], loops := true, plainKeys := false, apart := false, laid := [("math/bits.deBruijn64tab", laid_math_bits_deBruijn64tab)], narrowed := true }
def ExpandExactUptoSaid : Prop := expandExactUptoRow.holds Tryd.pinned (OpenSpec.upto expandExactSpec)

/-- 'accesscontrollaw15.ExpandMerges', WHERE WHAT IT READS IS OF BULK AT MOST 1048576: true; the input reads as it did. -/
def expandMergesUptoRow : OpenClaim := { program := "ytmkfabdkadocdaadoor", sum := "ca94a0a3ce803451f78ae0f39386de0e5c68b56601ae0f19ea543785e8e072cf", func := "accesscontrol/accesscontrollaw15.ExpandMerges", spec := "expandMerges", unfollowed := true, recurses := true, named := ["math/bits.deBruijn64tab"], plainKeys := false, apart := false, laid := [("math/bits.deBruijn64tab", laid_math_bits_deBruijn64tab)], narrowed := true }
def ExpandMergesUptoSaid : Prop := expandMergesUptoRow.holds Tryd.pinned (OpenSpec.upto expandMergesSpec)

/-- 'accesscontrollaw15.ExpandNever', WHERE WHAT IT READS IS OF BULK AT MOST 1048576: true; the input reads as it did. -/
def expandNeverUptoRow : OpenClaim := { program := "ytmkfabdkadocdaadoor", sum := "ca94a0a3ce803451f78ae0f39386de0e5c68b56601ae0f19ea543785e8e072cf", func := "accesscontrol/accesscontrollaw15.ExpandNever", spec := "expandNever", unfollowed := true, recurses := true, named := ["math/bits.deBruijn64tab"], loops := true, plainKeys := false, apart := false, laid := [("math/bits.deBruijn64tab", laid_math_bits_deBruijn64tab)], narrowed := true }
def ExpandNeverUptoSaid : Prop := expandNeverUptoRow.holds Tryd.pinned (OpenSpec.upto expandNeverSpec)

/-- 'accesscontrollaw15.ExpandRules', WHERE WHAT IT READS IS OF BULK AT MOST 1048576: true; the input reads as it did. -/
def expandRulesUptoRow : OpenClaim := { program := "ytmkfabdkadocdaadoor", sum := "ca94a0a3ce803451f78ae0f39386de0e5c68b56601ae0f19ea543785e8e072cf", func := "accesscontrol/accesscontrollaw15.ExpandRules", spec := "expandRules", unfollowed := true, recurses := true, named := ["math/bits.deBruijn64tab"], plainKeys := false, apart := false, laid := [("math/bits.deBruijn64tab", laid_math_bits_deBruijn64tab)], narrowed := true }
def ExpandRulesUptoSaid : Prop := expandRulesUptoRow.holds Tryd.pinned (OpenSpec.upto expandRulesSpec)

/-- 'accesscontrollaw15.ExpandCompresses', WHERE WHAT IT READS IS OF BULK AT MOST 1048576: true; the input reads as it did. -/
def expandCompressesUptoRow : OpenClaim := { program := "ytmkfabdkadocdaadoor", sum := "ca94a0a3ce803451f78ae0f39386de0e5c68b56601ae0f19ea543785e8e072cf", func := "accesscontrol/accesscontrollaw15.ExpandCompresses", spec := "expandCompresses", unfollowed := true, recurses := true, named := ["math/bits.deBruijn64tab"], plainKeys := false, apart := false, laid := [("math/bits.deBruijn64tab", laid_math_bits_deBruijn64tab)], narrowed := true }
def ExpandCompressesUptoSaid : Prop := expandCompressesUptoRow.holds Tryd.pinned (OpenSpec.upto expandCompressesSpec)

/-- 'accesscontrollaw15.ExpandOrder', WHERE WHAT IT READS IS OF BULK AT MOST 1048576: true; the input reads as it did. -/
def expandOrderUptoRow : OpenClaim := { program := "ytmkfabdkadocdaadoor", sum := "ca94a0a3ce803451f78ae0f39386de0e5c68b56601ae0f19ea543785e8e072cf", func := "accesscontrol/accesscontrollaw15.ExpandOrder", spec := "expandOrder", unfollowed := true, recurses := true, named := ["math/bits.deBruijn64tab"], loops := true, plainKeys := false, apart := false, laid := [("math/bits.deBruijn64tab", laid_math_bits_deBruijn64tab)], narrowed := true }
def ExpandOrderUptoSaid : Prop := expandOrderUptoRow.holds Tryd.pinned (OpenSpec.upto expandOrderSpec)

end Rows
end Go.Proofs.YtmkfabdkadocdaaDoor
