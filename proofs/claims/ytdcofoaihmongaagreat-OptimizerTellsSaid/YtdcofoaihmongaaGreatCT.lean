/-
  OptimizerTells returns true for every input, and leaves its arguments as they were. No conditions.
-/
import Derived.Test.YtdcofoaihmongaaGreatS6
namespace Go.Proofs.YtdcofoaihmongaaGreat
open Go Go.RowKit Go.ChangeShapes Go.WideShapes Go.ChangeAt
theorem ownT : ownKnob Tryz.prog.godebug = none := by kernel_rfl
theorem laidT : laidOutB Tryz.prog = true := by kernel_rfl
theorem args_2 {P : Program} {w : World} {t u : TypeId} {vs : List Value} (h : Args P w [t, u] vs) : ∃ a b, vs = [a, b] ∧ Arg P w t a ∧ Arg P w u b := by
  match vs, h with
  | [a, b], ⟨h1, h2, _⟩ => exact ⟨a, b, rfl, h1, h2⟩

set_option maxRecDepth 100000 in
theorem optimizerTells_lifted (os : Os) (started : os.Started) (H : Type) (enc : TypeId × Value → H) :
    ReturnsInHanded {} Tryz.checked os 5 .any (Rows.optimizerTellsSpec.pre6 enc Tryz.prog Tryz.f5 Rows.optimizerTellsRow.domain false) (Rows.optimizerTellsSpec.post enc Tryz.prog Tryz.f5 false true false false) := by
  refine KL (C := Tryz.checked) ownT laidT started (by kernel_rfl) Tryz.func5 rfl 4 (by kernel_rfl) Tryz.underlying4 (by kernel_rfl) ?_
    (ChangeSpec.witness6 (enc := enc) (C := Tryz.checked) false ⟨#[], #[.agg #[.slice none 0 0, .slice none 0 0, .slice none 0 0, .slice none 0 0, .slice none 0 0, .slice none 0 0, .slice none 0 0, .slice none 0 0, .slice none 0 0, .slice none 0 0, .slice none 0 0, .slice none 0 0, .slice none 0 0, .slice none 0 0, .slice none 0 0, .slice none 0 0, .slice none 0 0], .agg #[.slice none 0 0, .slice none 0 0, .slice none 0 0, .slice none 0 0, .slice none 0 0, .slice none 0 0, .slice none 0 0, .slice none 0 0, .slice none 0 0, .slice none 0 0, .slice none 0 0, .slice none 0 0, .slice none 0 0, .slice none 0 0, .slice none 0 0, .slice none 0 0, .slice none 0 0]], []⟩ 8 (by kernel_rfl) (by kernel_rfl) (by kernel_rfl) (by kernel_rfl)) ?_
  · intro ds hd
    rw [Tryz.params5] at hd
    match ds, hd with
    | [a, b], _ => rfl
  · intro W args hA
    have hA' : Args Tryz.prog W Tryz.f5.params.toList args.toList := hA
    rw [Tryz.params5] at hA'
    obtain ⟨a, b, he, h1, h2⟩ := args_2 hA'
    obtain rfl : args = #[a, b] := by rw [← Array.toArray_toList (xs := args), he]
    obtain ⟨c0, c1, c2, c3, c4, c5, c6, c7, c8, c9, aW, aP, aO, aU, aT, aS, aR, p, rfl, hp, hok⟩ := GI h1
    obtain ⟨d0, d1, d2, d3, d4, d5, d6, d7, d8, d9, ru, q_, q8, q7, q6, q5, qZ, q, rfl, hpq, Po⟩ := GI h2
    exact Oi W c0 c1 c2 c3 c4 c5 c6 c7 c8 c9 aW aP aO aU aT aS aR d0 d1 d2 d3 d4 d5 d6 d7 d8 d9 ru q_ q8 q7 q6 q5 qZ p q hp hpq hok Po

theorem optimizerTells_j0 : (Rows.optimizerTellsRow.wf (OpenSpec.ofChange Rows.optimizerTellsSpec)) = true := by kernel_rfl
theorem optimizerTells_j3 : (Tryz.f5.params.all (Tryz.prog.readableRec ·)) = true := by kernel_rfl
theorem optimizerTells_j4 : (namedTie Tryz.prog Rows.optimizerTellsRow.named Rows.optimizerTellsSpec.vars) = true := by kernel_rfl
theorem optimizerTells_j5 : ((Rows.optimizerTellsRow.stops == [])) = true := by kernel_rfl
theorem optimizerTells_j7 : ((Rows.optimizerTellsRow.knobs == [])) = true := by kernel_rfl
theorem optimizerTells_j9 : ((Rows.optimizerTellsRow.inPlace == Tryz.prog.inPlace 5)) = true := by kernel_rfl
theorem optimizerTells_j10 : ((Rows.optimizerTellsRow.unfollowed == Tryz.prog.unfollowed 5)) = true := by kernel_rfl
theorem optimizerTells_j11 : ((Rows.optimizerTellsRow.recurses == Tryz.prog.recurses 5)) = true := by kernel_rfl
theorem optimizerTells_j12 : ((Rows.optimizerTellsRow.named == Tryz.prog.varsNamed 5)) = true := by kernel_rfl
theorem optimizerTells_j13 : ((Rows.optimizerTellsRow.maps == (Tryz.f5.params.toList ++ Rows.optimizerTellsSpec.plain.varTypes Tryz.prog).any (Tryz.prog.mapsRec ·))) = true := by kernel_rfl
theorem optimizerTells_j14 : ((Rows.optimizerTellsRow.ifaces == (Tryz.f5.params.toList ++ Rows.optimizerTellsSpec.plain.varTypes Tryz.prog).any (Tryz.prog.ifacesRec ·))) = true := by kernel_rfl
theorem optimizerTells_j15 : ((Rows.optimizerTellsRow.mapsOut == Tryz.prog.mapsAmong Tryz.f5.resultTypes.toList)) = true := by kernel_rfl
theorem optimizerTells_j16 : ((Rows.optimizerTellsRow.loops == (Tryz.f5.params.toList ++ Rows.optimizerTellsSpec.plain.varTypes Tryz.prog).any (Tryz.prog.loopsFrom ·))) = true := by kernel_rfl
theorem optimizerTells_j17 : ((Rows.optimizerTellsRow.wideKeys == (Tryz.f5.params.toList ++ Rows.optimizerTellsSpec.plain.varTypes Tryz.prog ++ Tryz.f5.resultTypes.toList).any (Tryz.prog.wideKeysFrom ·))) = true := by kernel_rfl
theorem optimizerTells_j18 : (Rows.optimizerTellsSpec.vars.all (Tryz.prog.varReadable ·)) = true := by kernel_rfl
theorem optimizerTells_j19 : (Tryz.f5.resultTypes.all (fun t => Tryz.prog.readableRec t && decide (t < Tryz.prog.types.size))) = true := by kernel_rfl
theorem optimizerTells_j20 : ((Rows.optimizerTellsRow.ifacesOut == Tryz.f5.resultTypes.toList.any (Tryz.prog.ifacesRec ·))) = true := by kernel_rfl
theorem optimizerTells_j21 : ((Rows.optimizerTellsRow.loopsOut == Tryz.f5.resultTypes.toList.any (Tryz.prog.loopsFrom ·))) = true := by kernel_rfl
theorem optimizerTells_j22 : ((Rows.optimizerTellsRow.plainKeys == Tryz.prog.plainKeys)) = true := by kernel_rfl
theorem optimizerTells_j23 : (Rows.optimizerTellsRow.shortTexts.isNone) = true := by kernel_rfl
theorem optimizerTells_j26 : ((Rows.optimizerTellsRow.lifted == Tryz.prog.liftsFinal)) = true := by kernel_rfl
theorem optimizerTells_j27 : ((Tryz.prog.make == some Rows.optimizerTellsRow.make)) = true := by kernel_rfl
theorem optimizerTells_j28 : ((Rows.optimizerTellsRow.kinds == (if Rows.optimizerTellsRow.domain.isEmpty then [] else Tryz.f5.params.toList.map fun t => match Tryz.prog.underlying t with | some (.int k) => some k | _ => none))) = true := by kernel_rfl
theorem optimizerTells_j29 : ((Rows.optimizerTellsRow.pinned == Rows.optimizerTellsRow.pinnedBy)) = true := by kernel_rfl
theorem optimizerTells_j30 : ((Rows.optimizerTellsRow.veiled == (Tryz.f5.params.toList ++ Rows.optimizerTellsSpec.plain.varTypes Tryz.prog ++ Tryz.f5.resultTypes.toList).any (Tryz.prog.veiledRec ·))) = true := by kernel_rfl
theorem optimizerTells_j31 : (Rows.optimizerTellsRow.veiledFits Tryz.prog Tryz.f5.params.toList (Tryz.f5.params.toList ++ Rows.optimizerTellsSpec.plain.varTypes Tryz.prog ++ Tryz.f5.resultTypes.toList)) = true := by kernel_rfl
set_option maxRecDepth 100000 in
theorem optimizerTells_joined : joinedFacts Tryz.pinned.checked.prog 5 Tryz.f5 Rows.optimizerTellsSpec Rows.optimizerTellsRow = true := (dV (dV (dV (dV (dV (dV (dV (dV (dV (dV (dV (dV (dV (dV (dV (dV (dV (dV (dV (dV (dV (dV (dV (dV (dV (dV (dV (dV (dV (dV (dV optimizerTells_j0 laidT) jp2) optimizerTells_j3) optimizerTells_j4) optimizerTells_j5) jp6) optimizerTells_j7) jp8) optimizerTells_j9) optimizerTells_j10) optimizerTells_j11) optimizerTells_j12) optimizerTells_j13) optimizerTells_j14) optimizerTells_j15) optimizerTells_j16) optimizerTells_j17) optimizerTells_j18) optimizerTells_j19) optimizerTells_j20) optimizerTells_j21) optimizerTells_j22) optimizerTells_j23) agk) agj) optimizerTells_j26) optimizerTells_j27) optimizerTells_j28) optimizerTells_j29) optimizerTells_j30) optimizerTells_j31)
theorem optimizerTells_named : Tryz.pinned.checked.prog.funcNamed Rows.optimizerTellsRow.func = some 5 := by kernel_rfl
theorem optimizerTells_holds : Rows.OptimizerTellsSaid :=
  OpenClaim.holds_of_wide 5 Tryz.f5 rfl rfl rfl rfl rfl rfl rfl ⟨rfl, rfl, rfl, rfl, rfl⟩ rfl rfl rfl rfl rfl optimizerTells_named Tryz.func5 optimizerTells_joined
    (of_decide_eq_true (by kernel_rfl)) (by unfold Func.isWrapper; rw [if_neg (of_decide_eq_false (by kernel_rfl))]; exact ⟨rfl, rfl⟩)
    (fun os started H enc _ => optimizerTells_lifted os started H enc)

end Go.Proofs.YtdcofoaihmongaaGreat
