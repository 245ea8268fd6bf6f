/-
  AvtabRules returns true for every input, and leaves its arguments as they were. No conditions.
-/
import Derived.Test.YtdcofoaihmongaaGreatS6
namespace Go.Proofs.YtdcofoaihmongaaGreat
open Go.RowKit Go.ChangeShapes Go.WideShapes Go.ChangeAt

set_option maxRecDepth 100000 in
theorem avtabRules_lifted (os : Os) (started : os.Started) (H : Type) (enc : TypeId × Value → H) :
    ReturnsInHanded {} Tryz.checked os 3 .any (Rows.avtabRulesSpec.pre6 enc Tryz.prog Tryz.f3 Rows.avtabRulesRow.domain false) (Rows.avtabRulesSpec.post enc Tryz.prog Tryz.f3 false true false false) := by
  refine law_lifted (C := Tryz.checked) ownT laidT started (by kernel_rfl) Tryz.func3 rfl 4 (by kernel_rfl) Tryz.underlying4 (by kernel_rfl) ?_
    (ChangeSpec.witness6 (enc := enc) (C := Tryz.checked) false ⟨#[], #[.agg #[.slice none 0 0, .slice none 0 0, .slice none 0 0, .slice none 0 0, .slice none 0 0, .slice none 0 0, .slice none 0 0, .slice none 0 0, .slice none 0 0, .slice none 0 0, .slice none 0 0, .slice none 0 0, .slice none 0 0, .slice none 0 0, .slice none 0 0, .slice none 0 0, .slice none 0 0], .slice none 0 0], []⟩ 8 (by kernel_rfl) (by kernel_rfl) (by kernel_rfl) (by kernel_rfl)) ?_
  · intro ds hd
    rw [Tryz.params3] at hd
    match ds, hd with
    | [a, b], _ => rfl
  · intro W args hA
    have hA' : Args Tryz.prog W Tryz.f3.params.toList args.toList := hA
    rw [Tryz.params3] at hA'
    obtain ⟨a, b, he, h1, h2⟩ := args_2 hA'
    obtain rfl : args = #[a, b] := by rw [← Array.toArray_toList (xs := args), he]
    obtain ⟨c0, c1, c2, c3, c4, c5, c6, c7, c8, c9, c10, c11, c12, c13, c14, c15, c16, p, rfl, hp, hok⟩ := pol_open h1
    obtain ⟨vals, hv⟩ := bools_open h2
    exact rules_law W c0 c1 c2 c3 c4 c5 c6 c7 c8 c9 c10 c11 c12 c13 c14 c15 c16 p hp hok b vals hv

theorem avtabRules_j0 : (Rows.avtabRulesRow.wf (OpenSpec.ofChange Rows.avtabRulesSpec)) = true := by kernel_rfl
theorem avtabRules_j3 : (Tryz.f3.params.all (Tryz.prog.readableRec ·)) = true := by kernel_rfl
theorem avtabRules_j4 : (namedTie Tryz.prog Rows.avtabRulesRow.named Rows.avtabRulesSpec.vars) = true := by kernel_rfl
theorem avtabRules_j5 : ((Rows.avtabRulesRow.stops == [])) = true := by kernel_rfl
theorem avtabRules_j7 : ((Rows.avtabRulesRow.knobs == [])) = true := by kernel_rfl
theorem avtabRules_j9 : ((Rows.avtabRulesRow.inPlace == Tryz.prog.inPlace 3)) = true := by kernel_rfl
theorem avtabRules_j10 : ((Rows.avtabRulesRow.unfollowed == Tryz.prog.unfollowed 3)) = true := by kernel_rfl
theorem avtabRules_j11 : ((Rows.avtabRulesRow.recurses == Tryz.prog.recurses 3)) = true := by kernel_rfl
theorem avtabRules_j12 : ((Rows.avtabRulesRow.named == Tryz.prog.varsNamed 3)) = true := by kernel_rfl
theorem avtabRules_j13 : ((Rows.avtabRulesRow.maps == (Tryz.f3.params.toList ++ Rows.avtabRulesSpec.plain.varTypes Tryz.prog).any (Tryz.prog.mapsRec ·))) = true := by kernel_rfl
theorem avtabRules_j14 : ((Rows.avtabRulesRow.ifaces == (Tryz.f3.params.toList ++ Rows.avtabRulesSpec.plain.varTypes Tryz.prog).any (Tryz.prog.ifacesRec ·))) = true := by kernel_rfl
theorem avtabRules_j15 : ((Rows.avtabRulesRow.mapsOut == Tryz.prog.mapsAmong Tryz.f3.resultTypes.toList)) = true := by kernel_rfl
theorem avtabRules_j16 : ((Rows.avtabRulesRow.loops == (Tryz.f3.params.toList ++ Rows.avtabRulesSpec.plain.varTypes Tryz.prog).any (Tryz.prog.loopsFrom ·))) = true := by kernel_rfl
theorem avtabRules_j17 : ((Rows.avtabRulesRow.wideKeys == (Tryz.f3.params.toList ++ Rows.avtabRulesSpec.plain.varTypes Tryz.prog ++ Tryz.f3.resultTypes.toList).any (Tryz.prog.wideKeysFrom ·))) = true := by kernel_rfl
theorem avtabRules_j18 : (Rows.avtabRulesSpec.vars.all (Tryz.prog.varReadable ·)) = true := by kernel_rfl
theorem avtabRules_j19 : (Tryz.f3.resultTypes.all (fun t => Tryz.prog.readableRec t && decide (t < Tryz.prog.types.size))) = true := by kernel_rfl
theorem avtabRules_j20 : ((Rows.avtabRulesRow.ifacesOut == Tryz.f3.resultTypes.toList.any (Tryz.prog.ifacesRec ·))) = true := by kernel_rfl
theorem avtabRules_j21 : ((Rows.avtabRulesRow.loopsOut == Tryz.f3.resultTypes.toList.any (Tryz.prog.loopsFrom ·))) = true := by kernel_rfl
theorem avtabRules_j22 : ((Rows.avtabRulesRow.plainKeys == Tryz.prog.plainKeys)) = true := by kernel_rfl
theorem avtabRules_j23 : (Rows.avtabRulesRow.shortTexts.isNone) = true := by kernel_rfl
theorem avtabRules_j26 : ((Rows.avtabRulesRow.lifted == Tryz.prog.liftsFinal)) = true := by kernel_rfl
theorem avtabRules_j27 : ((Tryz.prog.make == some Rows.avtabRulesRow.make)) = true := by kernel_rfl
theorem avtabRules_j28 : ((Rows.avtabRulesRow.kinds == (if Rows.avtabRulesRow.domain.isEmpty then [] else Tryz.f3.params.toList.map fun t => match Tryz.prog.underlying t with | some (.int k) => some k | _ => none))) = true := by kernel_rfl
theorem avtabRules_j29 : ((Rows.avtabRulesRow.pinned == Rows.avtabRulesRow.pinnedBy)) = true := by kernel_rfl
theorem avtabRules_j30 : ((Rows.avtabRulesRow.veiled == (Tryz.f3.params.toList ++ Rows.avtabRulesSpec.plain.varTypes Tryz.prog ++ Tryz.f3.resultTypes.toList).any (Tryz.prog.veiledRec ·))) = true := by kernel_rfl
theorem avtabRules_j31 : (Rows.avtabRulesRow.veiledFits Tryz.prog Tryz.f3.params.toList (Tryz.f3.params.toList ++ Rows.avtabRulesSpec.plain.varTypes Tryz.prog ++ Tryz.f3.resultTypes.toList)) = true := by kernel_rfl
set_option maxRecDepth 100000 in
theorem avtabRules_joined : joinedFacts Tryz.pinned.checked.prog 3 Tryz.f3 Rows.avtabRulesSpec Rows.avtabRulesRow = true := (and_b (and_b (and_b (and_b (and_b (and_b (and_b (and_b (and_b (and_b (and_b (and_b (and_b (and_b (and_b (and_b (and_b (and_b (and_b (and_b (and_b (and_b (and_b (and_b (and_b (and_b (and_b (and_b (and_b (and_b (and_b avtabRules_j0 laidT) jp2) avtabRules_j3) avtabRules_j4) avtabRules_j5) jp6) avtabRules_j7) jp8) avtabRules_j9) avtabRules_j10) avtabRules_j11) avtabRules_j12) avtabRules_j13) avtabRules_j14) avtabRules_j15) avtabRules_j16) avtabRules_j17) avtabRules_j18) avtabRules_j19) avtabRules_j20) avtabRules_j21) avtabRules_j22) avtabRules_j23) jp24) jp25) avtabRules_j26) avtabRules_j27) avtabRules_j28) avtabRules_j29) avtabRules_j30) avtabRules_j31)
theorem avtabRules_named : Tryz.pinned.checked.prog.funcNamed Rows.avtabRulesRow.func = some 3 := by kernel_rfl
theorem avtabRules_holds : Rows.AvtabRulesSaid :=
  OpenClaim.holds_of_wide 3 Tryz.f3 rfl rfl rfl rfl rfl rfl rfl ⟨rfl, rfl, rfl, rfl, rfl⟩ rfl rfl rfl rfl rfl avtabRules_named Tryz.func3 avtabRules_joined
    (of_decide_eq_true (by kernel_rfl)) (by unfold Func.isWrapper; rw [if_neg (of_decide_eq_false (by kernel_rfl))]; exact ⟨rfl, rfl⟩)
    (fun os started H enc _ => avtabRules_lifted os started H enc)

end Go.Proofs.YtdcofoaihmongaaGreat
