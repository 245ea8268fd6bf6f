/-
  OptimizerConditions returns true for every input, and leaves its argument as it was. No conditions.
-/
import Derived.Test.YtdcofoaihmongaaGreatS6
namespace Go.Proofs.YtdcofoaihmongaaGreat
open Go Go.RowKit Go.ChangeShapes Go.WideShapes Go.ChangeAt
theorem ownT : ownKnob Tryz.prog.godebug = none := by kernel_rfl
theorem laidT : laidOutB Tryz.prog = true := by kernel_rfl
theorem args_1 {P : Program} {w : World} {t : TypeId} {vs : List Value} (h : Args P w [t] vs) : ∃ a, vs = [a] ∧ Arg P w t a := by
  match vs, h with
  | [a], ⟨h1, _⟩ => exact ⟨a, rfl, h1⟩
theorem args_2 {P : Program} {w : World} {t u : TypeId} {vs : List Value} (h : Args P w [t, u] vs) : ∃ a b, vs = [a, b] ∧ Arg P w t a ∧ Arg P w u b := by
  match vs, h with
  | [a, b], ⟨h1, h2, _⟩ => exact ⟨a, b, rfl, h1, h2⟩

set_option maxRecDepth 100000 in
theorem optimizerConditions_lifted (os : Os) (started : os.Started) (H : Type) (enc : TypeId × Value → H) :
    ReturnsInHanded {} Tryz.checked os 8 .any (Rows.optimizerConditionsSpec.pre6 enc Tryz.prog Tryz.f8 Rows.optimizerConditionsRow.domain false) (Rows.optimizerConditionsSpec.post enc Tryz.prog Tryz.f8 false true false false) := by
  refine Mz (C := Tryz.checked) ownT laidT started (by kernel_rfl) Tryz.func8 rfl 4 (by kernel_rfl) Tryz.underlying4 (by kernel_rfl) ?_
    (ChangeSpec.witness6 (enc := enc) (C := Tryz.checked) false ⟨#[], #[.agg #[.slice none 0 0, .slice none 0 0, .slice none 0 0, .slice none 0 0, .slice none 0 0, .slice none 0 0, .slice none 0 0, .slice none 0 0, .slice none 0 0, .slice none 0 0, .slice none 0 0, .slice none 0 0, .slice none 0 0, .slice none 0 0, .slice none 0 0, .slice none 0 0, .slice none 0 0]], []⟩ 8 (by kernel_rfl) (by kernel_rfl) (by kernel_rfl) (by kernel_rfl)) ?_
  · intro ds hd
    rw [Tryz.params8] at hd
    match ds, hd with
    | [a], _ => rfl
  · intro W args hA
    have hA' : Args Tryz.prog W Tryz.f8.params.toList args.toList := hA
    rw [Tryz.params8] at hA'
    obtain ⟨a, he, h1⟩ := args_1 hA'
    obtain rfl : args = #[a] := by rw [← Array.toArray_toList (xs := args), he]
    obtain ⟨c0, c1, c2, c3, c4, c5, c6, c7, c8, c9, aV, aP, aO, aU, aT, aS, aR, p, rfl, hp, hok⟩ := TX h1
    exact Cm W c0 c1 c2 c3 c4 c5 c6 c7 c8 c9 aV aP aO aU aT aS aR p hp hok

theorem optimizerConditions_j0 : (Rows.optimizerConditionsRow.wf (OpenSpec.ofChange Rows.optimizerConditionsSpec)) = true := by kernel_rfl
theorem optimizerConditions_j3 : (Tryz.f8.params.all (Tryz.prog.readableRec ·)) = true := by kernel_rfl
theorem optimizerConditions_j4 : (namedTie Tryz.prog Rows.optimizerConditionsRow.named Rows.optimizerConditionsSpec.vars) = true := by kernel_rfl
theorem optimizerConditions_j5 : ((Rows.optimizerConditionsRow.stops == [])) = true := by kernel_rfl
theorem optimizerConditions_j7 : ((Rows.optimizerConditionsRow.knobs == [])) = true := by kernel_rfl
theorem optimizerConditions_j9 : ((Rows.optimizerConditionsRow.inPlace == Tryz.prog.inPlace 8)) = true := by kernel_rfl
theorem optimizerConditions_j10 : ((Rows.optimizerConditionsRow.unfollowed == Tryz.prog.unfollowed 8)) = true := by kernel_rfl
theorem optimizerConditions_j11 : ((Rows.optimizerConditionsRow.recurses == Tryz.prog.recurses 8)) = true := by kernel_rfl
theorem optimizerConditions_j12 : ((Rows.optimizerConditionsRow.named == Tryz.prog.varsNamed 8)) = true := by kernel_rfl
theorem optimizerConditions_j13 : ((Rows.optimizerConditionsRow.maps == (Tryz.f8.params.toList ++ Rows.optimizerConditionsSpec.plain.varTypes Tryz.prog).any (Tryz.prog.mapsRec ·))) = true := by kernel_rfl
theorem optimizerConditions_j14 : ((Rows.optimizerConditionsRow.ifaces == (Tryz.f8.params.toList ++ Rows.optimizerConditionsSpec.plain.varTypes Tryz.prog).any (Tryz.prog.ifacesRec ·))) = true := by kernel_rfl
theorem optimizerConditions_j15 : ((Rows.optimizerConditionsRow.mapsOut == Tryz.prog.mapsAmong Tryz.f8.resultTypes.toList)) = true := by kernel_rfl
theorem optimizerConditions_j16 : ((Rows.optimizerConditionsRow.loops == (Tryz.f8.params.toList ++ Rows.optimizerConditionsSpec.plain.varTypes Tryz.prog).any (Tryz.prog.loopsFrom ·))) = true := by kernel_rfl
theorem optimizerConditions_j17 : ((Rows.optimizerConditionsRow.wideKeys == (Tryz.f8.params.toList ++ Rows.optimizerConditionsSpec.plain.varTypes Tryz.prog ++ Tryz.f8.resultTypes.toList).any (Tryz.prog.wideKeysFrom ·))) = true := by kernel_rfl
theorem optimizerConditions_j18 : (Rows.optimizerConditionsSpec.vars.all (Tryz.prog.varReadable ·)) = true := by kernel_rfl
theorem optimizerConditions_j19 : (Tryz.f8.resultTypes.all (fun t => Tryz.prog.readableRec t && decide (t < Tryz.prog.types.size))) = true := by kernel_rfl
theorem optimizerConditions_j20 : ((Rows.optimizerConditionsRow.ifacesOut == Tryz.f8.resultTypes.toList.any (Tryz.prog.ifacesRec ·))) = true := by kernel_rfl
theorem optimizerConditions_j21 : ((Rows.optimizerConditionsRow.loopsOut == Tryz.f8.resultTypes.toList.any (Tryz.prog.loopsFrom ·))) = true := by kernel_rfl
theorem optimizerConditions_j22 : ((Rows.optimizerConditionsRow.plainKeys == Tryz.prog.plainKeys)) = true := by kernel_rfl
theorem optimizerConditions_j23 : (Rows.optimizerConditionsRow.shortTexts.isNone) = true := by kernel_rfl
theorem optimizerConditions_j26 : ((Rows.optimizerConditionsRow.lifted == Tryz.prog.liftsFinal)) = true := by kernel_rfl
theorem optimizerConditions_j27 : ((Tryz.prog.make == some Rows.optimizerConditionsRow.make)) = true := by kernel_rfl
theorem optimizerConditions_j28 : ((Rows.optimizerConditionsRow.kinds == (if Rows.optimizerConditionsRow.domain.isEmpty then [] else Tryz.f8.params.toList.map fun t => match Tryz.prog.underlying t with | some (.int k) => some k | _ => none))) = true := by kernel_rfl
theorem optimizerConditions_j29 : ((Rows.optimizerConditionsRow.pinned == Rows.optimizerConditionsRow.pinnedBy)) = true := by kernel_rfl
theorem optimizerConditions_j30 : ((Rows.optimizerConditionsRow.veiled == (Tryz.f8.params.toList ++ Rows.optimizerConditionsSpec.plain.varTypes Tryz.prog ++ Tryz.f8.resultTypes.toList).any (Tryz.prog.veiledRec ·))) = true := by kernel_rfl
theorem optimizerConditions_j31 : (Rows.optimizerConditionsRow.veiledFits Tryz.prog Tryz.f8.params.toList (Tryz.f8.params.toList ++ Rows.optimizerConditionsSpec.plain.varTypes Tryz.prog ++ Tryz.f8.resultTypes.toList)) = true := by kernel_rfl
set_option maxRecDepth 100000 in
theorem optimizerConditions_joined : joinedFacts Tryz.pinned.checked.prog 8 Tryz.f8 Rows.optimizerConditionsSpec Rows.optimizerConditionsRow = true := (eu (eu (eu (eu (eu (eu (eu (eu (eu (eu (eu (eu (eu (eu (eu (eu (eu (eu (eu (eu (eu (eu (eu (eu (eu (eu (eu (eu (eu (eu (eu optimizerConditions_j0 laidT) jp2) optimizerConditions_j3) optimizerConditions_j4) optimizerConditions_j5) jp6) optimizerConditions_j7) jp8) optimizerConditions_j9) optimizerConditions_j10) optimizerConditions_j11) optimizerConditions_j12) optimizerConditions_j13) optimizerConditions_j14) optimizerConditions_j15) optimizerConditions_j16) optimizerConditions_j17) optimizerConditions_j18) optimizerConditions_j19) optimizerConditions_j20) optimizerConditions_j21) optimizerConditions_j22) optimizerConditions_j23) ahn) ahm) optimizerConditions_j26) optimizerConditions_j27) optimizerConditions_j28) optimizerConditions_j29) optimizerConditions_j30) optimizerConditions_j31)
theorem optimizerConditions_named : Tryz.pinned.checked.prog.funcNamed Rows.optimizerConditionsRow.func = some 8 := by kernel_rfl
theorem optimizerConditions_holds : Rows.OptimizerConditionsSaid :=
  OpenClaim.holds_of_wide 8 Tryz.f8 rfl rfl rfl rfl rfl rfl rfl ⟨rfl, rfl, rfl, rfl, rfl⟩ rfl rfl rfl rfl rfl optimizerConditions_named Tryz.func8 optimizerConditions_joined
    (of_decide_eq_true (by kernel_rfl)) (by unfold Func.isWrapper; rw [if_neg (of_decide_eq_false (by kernel_rfl))]; exact ⟨rfl, rfl⟩)
    (fun os started H enc _ => optimizerConditions_lifted os started H enc)

end Go.Proofs.YtdcofoaihmongaaGreat
