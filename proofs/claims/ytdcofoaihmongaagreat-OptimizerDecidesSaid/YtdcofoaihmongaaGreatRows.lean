/-
  NARROWER THAN 'FOR EVERY INPUT', by the rows' own cells (each row's printed sentence says how): AvtabRules: loops · OptimizerSame: loops · OptimizerTells: loops · OptimizerRemoves: loops · OptimizerJoins: loops · OptimizerConditions: loops · OptimizerDecides: loops · OptimizerEntries: loops.
  DERIVED. THE GIVEN ROWS OF THIS SEAT. 8 by the template 'for every input the law returns true; each argument reads behind the call as it read before'; 0 by the template 'total and deterministic' (their statements: YtdcofoaihmongaaGreatTotals.lean).
  GIVEN WITH THE SEED: the statements are not yours to turn. If you find one false, say at which input.
  Laid BY PROGRAM, IN A SANDBOX (cutbox-rows.mjs): the forced cells as the released guide's own fill.sh prints them over the translation 9607b76cc6b73d6d… (all of the seat's roots in one cut). By AI agents, Wed Nov 11 2026. No macro, syntax, notation, axiom, sorry.
-/
import Derived.Test.YtdcofoaihmongaaGreatChecked
import GoSem.Claim
import GoSem.ClaimJoined
import GoSem.ClaimMapViews
import Derived.JoinedTies
import Derived.KernelRfl
namespace Go.Proofs.YtdcofoaihmongaaGreat
/- THE CELL 'sum', in the pinned program and in every row, IS THE sha256 OF THE DUMP (.gsa) THAT YtdcofoaihmongaaGreatProg.lean LOADS. Nothing in Lean hashes anything: it is a label: what it is worth is what the hold of that sum in a sandbox is worth. -/
noncomputable def Tryz.pinned : Pinned := { name := "ytdcofoaihmongaagreat", sum := "9607b76cc6b73d6d0e2bf59011b0f8c05d4202b3526478766b904f4c7279cef4", checked := Tryz.checked }
namespace Rows
def none {H : Type} : Left H := { results := [], args := [] }

/-- 'accesscontrollaw16.AvtabRules': WHATEVER THE INPUT: true; the input reads as it did. -/
def avtabRulesSpec : ChangeSpec := { name := "avtabRules", fn := fun _ => fun
  | [d1, d2] => { results := [.lit (.bool true)], args := [d1, d2] }
  | _ => none }
def avtabRulesRow : OpenClaim := { program := "ytdcofoaihmongaagreat", sum := "9607b76cc6b73d6d0e2bf59011b0f8c05d4202b3526478766b904f4c7279cef4", func := "accesscontrol/accesscontrollaw16.AvtabRules", spec := "avtabRules", inPlace := ["slices.overlaps[accesscontrol/avtab.key]"], unfollowed := true, recurses := true, loops := true, plainKeys := false, apart := false }
def AvtabRulesSaid : Prop := avtabRulesRow.holds Tryz.pinned (OpenSpec.ofChange avtabRulesSpec)

/-- ITS FALSE NEIGHBOUR: 'it returns false'. Refute it at one input. -/
def avtabRulesWrong : ChangeSpec := { name := "avtabRules", fn := fun _ => fun
  | [d1, d2] => { results := [.lit (.bool false)], args := [d1, d2] }
  | _ => none }
def AvtabRulesWrongFalsely : Prop := avtabRulesRow.holds Tryz.pinned (OpenSpec.ofChange avtabRulesWrong)

/-- 'accesscontrollaw24.OptimizerSame': WHATEVER THE INPUT: true; the input reads as it did. -/
def optimizerSameSpec : ChangeSpec := { name := "optimizerSame", fn := fun _ => fun
  | [d] => { results := [.lit (.bool true)], args := [d] }
  | _ => none }
def optimizerSameRow : OpenClaim := { program := "ytdcofoaihmongaagreat", sum := "9607b76cc6b73d6d0e2bf59011b0f8c05d4202b3526478766b904f4c7279cef4", func := "accesscontrol/accesscontrollaw24.OptimizerSame", spec := "optimizerSame", unfollowed := true, recurses := true, loops := true, plainKeys := false, apart := false }
def OptimizerSameSaid : Prop := optimizerSameRow.holds Tryz.pinned (OpenSpec.ofChange optimizerSameSpec)

/-- ITS FALSE NEIGHBOUR: 'it returns false'. Refute it at one input. -/
def optimizerSameWrong : ChangeSpec := { name := "optimizerSame", fn := fun _ => fun
  | [d] => { results := [.lit (.bool false)], args := [d] }
  | _ => none }
def OptimizerSameWrongFalsely : Prop := optimizerSameRow.holds Tryz.pinned (OpenSpec.ofChange optimizerSameWrong)

/-- 'accesscontrollaw24.OptimizerTells': WHATEVER THE INPUT: true; the input reads as it did. -/
def optimizerTellsSpec : ChangeSpec := { name := "optimizerTells", fn := fun _ => fun
  | [d1, d2] => { results := [.lit (.bool true)], args := [d1, d2] }
  | _ => none }
def optimizerTellsRow : OpenClaim := { program := "ytdcofoaihmongaagreat", sum := "9607b76cc6b73d6d0e2bf59011b0f8c05d4202b3526478766b904f4c7279cef4", func := "accesscontrol/accesscontrollaw24.OptimizerTells", spec := "optimizerTells", unfollowed := true, recurses := true, loops := true, plainKeys := false, apart := false }
def OptimizerTellsSaid : Prop := optimizerTellsRow.holds Tryz.pinned (OpenSpec.ofChange optimizerTellsSpec)

/-- ITS FALSE NEIGHBOUR: 'it returns false'. Refute it at one input. -/
def optimizerTellsWrong : ChangeSpec := { name := "optimizerTells", fn := fun _ => fun
  | [d1, d2] => { results := [.lit (.bool false)], args := [d1, d2] }
  | _ => none }
def OptimizerTellsWrongFalsely : Prop := optimizerTellsRow.holds Tryz.pinned (OpenSpec.ofChange optimizerTellsWrong)

/-- 'accesscontrollaw24.OptimizerRemoves': WHATEVER THE INPUT: true; the input reads as it did. -/
def optimizerRemovesSpec : ChangeSpec := { name := "optimizerRemoves", fn := fun _ => fun
  | [d1, d2] => { results := [.lit (.bool true)], args := [d1, d2] }
  | _ => none }
def optimizerRemovesRow : OpenClaim := { program := "ytdcofoaihmongaagreat", sum := "9607b76cc6b73d6d0e2bf59011b0f8c05d4202b3526478766b904f4c7279cef4", func := "accesscontrol/accesscontrollaw24.OptimizerRemoves", spec := "optimizerRemoves", unfollowed := true, recurses := true, loops := true, plainKeys := false, apart := false }
def OptimizerRemovesSaid : Prop := optimizerRemovesRow.holds Tryz.pinned (OpenSpec.ofChange optimizerRemovesSpec)

/-- ITS FALSE NEIGHBOUR: 'it returns false'. Refute it at one input. -/
def optimizerRemovesWrong : ChangeSpec := { name := "optimizerRemoves", fn := fun _ => fun
  | [d1, d2] => { results := [.lit (.bool false)], args := [d1, d2] }
  | _ => none }
def OptimizerRemovesWrongFalsely : Prop := optimizerRemovesRow.holds Tryz.pinned (OpenSpec.ofChange optimizerRemovesWrong)

/-- 'accesscontrollaw24.OptimizerJoins': WHATEVER THE INPUT: true; the input reads as it did. -/
def optimizerJoinsSpec : ChangeSpec := { name := "optimizerJoins", fn := fun _ => fun
  | [d] => { results := [.lit (.bool true)], args := [d] }
  | _ => none }
def optimizerJoinsRow : OpenClaim := { program := "ytdcofoaihmongaagreat", sum := "9607b76cc6b73d6d0e2bf59011b0f8c05d4202b3526478766b904f4c7279cef4", func := "accesscontrol/accesscontrollaw24.OptimizerJoins", spec := "optimizerJoins", unfollowed := true, recurses := true, loops := true, plainKeys := false, apart := false }
def OptimizerJoinsSaid : Prop := optimizerJoinsRow.holds Tryz.pinned (OpenSpec.ofChange optimizerJoinsSpec)

/-- ITS FALSE NEIGHBOUR: 'it returns false'. Refute it at one input. -/
def optimizerJoinsWrong : ChangeSpec := { name := "optimizerJoins", fn := fun _ => fun
  | [d] => { results := [.lit (.bool false)], args := [d] }
  | _ => none }
def OptimizerJoinsWrongFalsely : Prop := optimizerJoinsRow.holds Tryz.pinned (OpenSpec.ofChange optimizerJoinsWrong)

/-- 'accesscontrollaw24.OptimizerConditions': WHATEVER THE INPUT: true; the input reads as it did. -/
def optimizerConditionsSpec : ChangeSpec := { name := "optimizerConditions", fn := fun _ => fun
  | [d] => { results := [.lit (.bool true)], args := [d] }
  | _ => none }
def optimizerConditionsRow : OpenClaim := { program := "ytdcofoaihmongaagreat", sum := "9607b76cc6b73d6d0e2bf59011b0f8c05d4202b3526478766b904f4c7279cef4", func := "accesscontrol/accesscontrollaw24.OptimizerConditions", spec := "optimizerConditions", unfollowed := true, recurses := true, loops := true, plainKeys := false, apart := false }
def OptimizerConditionsSaid : Prop := optimizerConditionsRow.holds Tryz.pinned (OpenSpec.ofChange optimizerConditionsSpec)

/-- ITS FALSE NEIGHBOUR: 'it returns false'. Refute it at one input. -/
def optimizerConditionsWrong : ChangeSpec := { name := "optimizerConditions", fn := fun _ => fun
  | [d] => { results := [.lit (.bool false)], args := [d] }
  | _ => none }
def OptimizerConditionsWrongFalsely : Prop := optimizerConditionsRow.holds Tryz.pinned (OpenSpec.ofChange optimizerConditionsWrong)

/-- 'accesscontrollaw24.OptimizerDecides': WHATEVER THE INPUT: true; the input reads as it did. -/
def optimizerDecidesSpec : ChangeSpec := { name := "optimizerDecides", fn := fun _ => fun
  | [d1, d2] => { results := [.lit (.bool true)], args := [d1, d2] }
  | _ => none }
def optimizerDecidesRow : OpenClaim := { program := "ytdcofoaihmongaagreat", sum := "9607b76cc6b73d6d0e2bf59011b0f8c05d4202b3526478766b904f4c7279cef4", func := "accesscontrol/accesscontrollaw24.OptimizerDecides", spec := "optimizerDecides", unfollowed := true, recurses := true, loops := true, plainKeys := false, apart := false }
def OptimizerDecidesSaid : Prop := optimizerDecidesRow.holds Tryz.pinned (OpenSpec.ofChange optimizerDecidesSpec)

/-- ITS FALSE NEIGHBOUR: 'it returns false'. Refute it at one input. -/
def optimizerDecidesWrong : ChangeSpec := { name := "optimizerDecides", fn := fun _ => fun
  | [d1, d2] => { results := [.lit (.bool false)], args := [d1, d2] }
  | _ => none }
def OptimizerDecidesWrongFalsely : Prop := optimizerDecidesRow.holds Tryz.pinned (OpenSpec.ofChange optimizerDecidesWrong)

/-- 'accesscontrollaw24.OptimizerEntries': WHATEVER THE INPUT: true; the input reads as it did. -/
def optimizerEntriesSpec : ChangeSpec := { name := "optimizerEntries", fn := fun _ => fun
  | [d] => { results := [.lit (.bool true)], args := [d] }
  | _ => none }
def optimizerEntriesRow : OpenClaim := { program := "ytdcofoaihmongaagreat", sum := "9607b76cc6b73d6d0e2bf59011b0f8c05d4202b3526478766b904f4c7279cef4", func := "accesscontrol/accesscontrollaw24.OptimizerEntries", spec := "optimizerEntries", unfollowed := true, recurses := true, loops := true, plainKeys := false, apart := false }
def OptimizerEntriesSaid : Prop := optimizerEntriesRow.holds Tryz.pinned (OpenSpec.ofChange optimizerEntriesSpec)

/-- ITS FALSE NEIGHBOUR: 'it returns false'. Refute it at one input. -/
def optimizerEntriesWrong : ChangeSpec := { name := "optimizerEntries", fn := fun _ => fun
  | [d] => { results := [.lit (.bool false)], args := [d] }
  | _ => none }
def OptimizerEntriesWrongFalsely : Prop := optimizerEntriesRow.holds Tryz.pinned (OpenSpec.ofChange optimizerEntriesWrong)

/- THE SECOND FORM. 'bulk': how many values and letters a reading holds, each counted each time it is reached (what is shared counts as often as it is met; a slice's spare places count too). A statement '..UptoSaid' is the law's where the arguments, and the package variables that the reading takes, are together of bulk at most 1048576: NARROWER than '..Said'. Prove '..Said' where nothing that the law and all that it calls make is longer than what came in: it says more and counts as full. Else prove '..UptoSaid'. A law counts once. -/
mutual
def uptoBulk {H : Type} : DataW H → Nat
  | .lit (.string bytes) => bytes.length + 1
  | .lit _ => 1
  | .nil => 1
  | .ptr d => uptoBulk d + 1
  | .slice elems spare => uptoBulkAll elems + uptoBulkAll spare + 1
  | .agg parts => uptoBulkAll parts + 1
  | .iface _ d => uptoBulk d + 1
  | .map entries => uptoBulkEntries entries + 1
  | .held _ => 1
def uptoBulkAll {H : Type} : List (DataW H) → Nat
  | [] => 0
  | d :: r => uptoBulk d + uptoBulkAll r
def uptoBulkEntries {H : Type} : List (Lit × DataW H) → Nat
  | [] => 0
  | x :: r => uptoBulkEntry x + uptoBulkEntries r
def uptoBulkEntry {H : Type} : Lit × DataW H → Nat
  | (.string bytes, d) => bytes.length + uptoBulk d + 1
  | (_, d) => uptoBulk d + 1
 end
def uptoSmall : (H : Type) → List (DataW H) → Bool := fun _ ds => decide (uptoBulkAll ds ≤ 1048576)
def OpenSpec.upto (s : _root_.Go.ChangeSpec) : _root_.Go.OpenSpec := { _root_.Go.OpenSpec.ofChange s with cond := some uptoSmall }

/-- 'accesscontrollaw16.AvtabRules', WHERE WHAT IT READS IS OF BULK AT MOST 1048576: true; the input reads as it did. -/
def avtabRulesUptoRow : OpenClaim := { program := "ytdcofoaihmongaagreat", sum := "9607b76cc6b73d6d0e2bf59011b0f8c05d4202b3526478766b904f4c7279cef4", func := "accesscontrol/accesscontrollaw16.AvtabRules", spec := "avtabRules", inPlace := ["slices.overlaps[accesscontrol/avtab.key]"], unfollowed := true, recurses := true, loops := true, plainKeys := false, apart := false, narrowed := true }
def AvtabRulesUptoSaid : Prop := avtabRulesUptoRow.holds Tryz.pinned (OpenSpec.upto avtabRulesSpec)

/-- 'accesscontrollaw24.OptimizerSame', WHERE WHAT IT READS IS OF BULK AT MOST 1048576: true; the input reads as it did. -/
def optimizerSameUptoRow : OpenClaim := { program := "ytdcofoaihmongaagreat", sum := "9607b76cc6b73d6d0e2bf59011b0f8c05d4202b3526478766b904f4c7279cef4", func := "accesscontrol/accesscontrollaw24.OptimizerSame", spec := "optimizerSame", unfollowed := true, recurses := true, loops := true, plainKeys := false, apart := false, narrowed := true }
def OptimizerSameUptoSaid : Prop := optimizerSameUptoRow.holds Tryz.pinned (OpenSpec.upto optimizerSameSpec)

/-- 'accesscontrollaw24.OptimizerTells', WHERE WHAT IT READS IS OF BULK AT MOST 1048576: true; the input reads as it did. -/
def optimizerTellsUptoRow : OpenClaim := { program := "ytdcofoaihmongaagreat", sum := "9607b76cc6b73d6d0e2bf59011b0f8c05d4202b3526478766b904f4c7279cef4", func := "accesscontrol/accesscontrollaw24.OptimizerTells", spec := "optimizerTells", unfollowed := true, recurses := true, loops := true, plainKeys := false, apart := false, narrowed := true }
def OptimizerTellsUptoSaid : Prop := optimizerTellsUptoRow.holds Tryz.pinned (OpenSpec.upto optimizerTellsSpec)

/-- 'accesscontrollaw24.OptimizerRemoves', WHERE WHAT IT READS IS OF BULK AT MOST 1048576: true; the input reads as it did. -/
def optimizerRemovesUptoRow : OpenClaim := { program := "ytdcofoaihmongaagreat", sum := "9607b76cc6b73d6d0e2bf59011b0f8c05d4202b3526478766b904f4c7279cef4", func := "accesscontrol/accesscontrollaw24.OptimizerRemoves", spec := "optimizerRemoves", unfollowed := true, recurses := true, loops := true, plainKeys := false, apart := false, narrowed := true }
def OptimizerRemovesUptoSaid : Prop := optimizerRemovesUptoRow.holds Tryz.pinned (OpenSpec.upto optimizerRemovesSpec)

/-- 'accesscontrollaw24.OptimizerJoins', WHERE WHAT IT READS IS OF BULK AT MOST 1048576: true; the input reads as it did. -/
def optimizerJoinsUptoRow : OpenClaim := { program := "ytdcofoaihmongaagreat", sum := "9607b76cc6b73d6d0e2bf59011b0f8c05d4202b3526478766b904f4c7279cef4", func := "accesscontrol/accesscontrollaw24.OptimizerJoins", spec := "optimizerJoins", unfollowed := true, recurses := true, loops := true, plainKeys := false, apart := false, narrowed := true }
def OptimizerJoinsUptoSaid : Prop := optimizerJoinsUptoRow.holds Tryz.pinned (OpenSpec.upto optimizerJoinsSpec)

/-- 'accesscontrollaw24.OptimizerConditions', WHERE WHAT IT READS IS OF BULK AT MOST 1048576: true; the input reads as it did. -/
def optimizerConditionsUptoRow : OpenClaim := { program := "ytdcofoaihmongaagreat", sum := "9607b76cc6b73d6d0e2bf59011b0f8c05d4202b3526478766b904f4c7279cef4", func := "accesscontrol/accesscontrollaw24.OptimizerConditions", spec := "optimizerConditions", unfollowed := true, recurses := true, loops := true, plainKeys := false, apart := false, narrowed := true }
def OptimizerConditionsUptoSaid : Prop := optimizerConditionsUptoRow.holds Tryz.pinned (OpenSpec.upto optimizerConditionsSpec)

/-- 'accesscontrollaw24.OptimizerDecides', WHERE WHAT IT READS IS OF BULK AT MOST 1048576: true; the input reads as it did. -/
def optimizerDecidesUptoRow : OpenClaim := { program := "ytdcofoaihmongaagreat", sum := "9607b76cc6b73d6d0e2bf59011b0f8c05d4202b3526478766b904f4c7279cef4", func := "accesscontrol/accesscontrollaw24.OptimizerDecides", spec := "optimizerDecides", unfollowed := true, recurses := true, loops := true, plainKeys := false, apart := false, narrowed := true }
def OptimizerDecidesUptoSaid : Prop := optimizerDecidesUptoRow.holds Tryz.pinned (OpenSpec.upto optimizerDecidesSpec)

/-- 'accesscontrollaw24.OptimizerEntries', WHERE WHAT IT READS IS OF BULK AT MOST 1048576: true; the input reads as it did. -/
def optimizerEntriesUptoRow : OpenClaim := { program := "ytdcofoaihmongaagreat", sum := "9607b76cc6b73d6d0e2bf59011b0f8c05d4202b3526478766b904f4c7279cef4", func := "accesscontrol/accesscontrollaw24.OptimizerEntries", spec := "optimizerEntries", unfollowed := true, recurses := true, loops := true, plainKeys := false, apart := false, narrowed := true }
def OptimizerEntriesUptoSaid : Prop := optimizerEntriesUptoRow.holds Tryz.pinned (OpenSpec.upto optimizerEntriesSpec)

end Rows
end Go.Proofs.YtdcofoaihmongaaGreat
