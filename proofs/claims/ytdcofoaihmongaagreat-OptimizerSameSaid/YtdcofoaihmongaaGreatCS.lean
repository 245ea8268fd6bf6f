/-
  OptimizerSame returns true for every input, and leaves its argument as it was. No conditions.
-/
import Derived.Test.YtdcofoaihmongaaGreatS6
namespace Go.Proofs.YtdcofoaihmongaaGreat
open Go Go.RowKit Go.ChangeShapes Go.WideShapes Go.ChangeAt
theorem ownT : ownKnob Tryz.prog.godebug = none := by kernel_rfl
theorem laidT : laidOutB Tryz.prog = true := by kernel_rfl
theorem args_1 {P : Program} {w : World} {t : TypeId} {vs : List Value} (h : Args P w [t] vs) : ∃ a, vs = [a] ∧ Arg P w t a := by
  match vs, h with
  | [a], ⟨h1, _⟩ => exact ⟨a, rfl, h1⟩
theorem args_2 {P : Program} {w : World} {t u : TypeId} {vs : List Value} (h : Args P w [t, u] vs) : ∃ a b, vs = [a, b] ∧ Arg P w t a ∧ Arg P w u b := by
  match vs, h with
  | [a, b], ⟨h1, h2, _⟩ => exact ⟨a, b, rfl, h1, h2⟩

set_option maxRecDepth 100000 in
theorem optimizerSame_lifted (os : Os) (started : os.Started) (H : Type) (enc : TypeId × Value → H) :
    ReturnsInHanded {} Tryz.checked os 4 .any (Rows.optimizerSameSpec.pre6 enc Tryz.prog Tryz.f4 Rows.optimizerSameRow.domain false) (Rows.optimizerSameSpec.post enc Tryz.prog Tryz.f4 false true false false) := by
  refine Nu (C := Tryz.checked) ownT laidT started (by kernel_rfl) Tryz.func4 rfl 4 (by kernel_rfl) Tryz.underlying4 (by kernel_rfl) ?_
    (ChangeSpec.witness6 (enc := enc) (C := Tryz.checked) false ⟨#[], #[.agg #[.slice none 0 0, .slice none 0 0, .slice none 0 0, .slice none 0 0, .slice none 0 0, .slice none 0 0, .slice none 0 0, .slice none 0 0, .slice none 0 0, .slice none 0 0, .slice none 0 0, .slice none 0 0, .slice none 0 0, .slice none 0 0, .slice none 0 0, .slice none 0 0, .slice none 0 0]], []⟩ 8 (by kernel_rfl) (by kernel_rfl) (by kernel_rfl) (by kernel_rfl)) ?_
  · intro ds hd
    rw [Tryz.params4] at hd
    match ds, hd with
    | [a], _ => rfl
  · intro W args hA
    have hA' : Args Tryz.prog W Tryz.f4.params.toList args.toList := hA
    rw [Tryz.params4] at hA'
    obtain ⟨a, he, h1⟩ := args_1 hA'
    obtain rfl : args = #[a] := by rw [← Array.toArray_toList (xs := args), he]
    obtain ⟨c0, c1, c2, c3, c4, c5, c6, c7, c8, c9, aQ, aL, aK, aP, aO, aN, aM, p, rfl, hp, hok⟩ := U9 h1
    exact UW W c0 c1 c2 c3 c4 c5 c6 c7 c8 c9 aQ aL aK aP aO aN aM p hp hok

theorem optimizerSame_j0 : (Rows.optimizerSameRow.wf (OpenSpec.ofChange Rows.optimizerSameSpec)) = true := by kernel_rfl
theorem optimizerSame_j3 : (Tryz.f4.params.all (Tryz.prog.readableRec ·)) = true := by kernel_rfl
theorem optimizerSame_j4 : (namedTie Tryz.prog Rows.optimizerSameRow.named Rows.optimizerSameSpec.vars) = true := by kernel_rfl
theorem optimizerSame_j5 : ((Rows.optimizerSameRow.stops == [])) = true := by kernel_rfl
theorem optimizerSame_j7 : ((Rows.optimizerSameRow.knobs == [])) = true := by kernel_rfl
theorem optimizerSame_j9 : ((Rows.optimizerSameRow.inPlace == Tryz.prog.inPlace 4)) = true := by kernel_rfl
theorem optimizerSame_j10 : ((Rows.optimizerSameRow.unfollowed == Tryz.prog.unfollowed 4)) = true := by kernel_rfl
theorem optimizerSame_j11 : ((Rows.optimizerSameRow.recurses == Tryz.prog.recurses 4)) = true := by kernel_rfl
theorem optimizerSame_j12 : ((Rows.optimizerSameRow.named == Tryz.prog.varsNamed 4)) = true := by kernel_rfl
theorem optimizerSame_j13 : ((Rows.optimizerSameRow.maps == (Tryz.f4.params.toList ++ Rows.optimizerSameSpec.plain.varTypes Tryz.prog).any (Tryz.prog.mapsRec ·))) = true := by kernel_rfl
theorem optimizerSame_j14 : ((Rows.optimizerSameRow.ifaces == (Tryz.f4.params.toList ++ Rows.optimizerSameSpec.plain.varTypes Tryz.prog).any (Tryz.prog.ifacesRec ·))) = true := by kernel_rfl
theorem optimizerSame_j15 : ((Rows.optimizerSameRow.mapsOut == Tryz.prog.mapsAmong Tryz.f4.resultTypes.toList)) = true := by kernel_rfl
theorem optimizerSame_j16 : ((Rows.optimizerSameRow.loops == (Tryz.f4.params.toList ++ Rows.optimizerSameSpec.plain.varTypes Tryz.prog).any (Tryz.prog.loopsFrom ·))) = true := by kernel_rfl
theorem optimizerSame_j17 : ((Rows.optimizerSameRow.wideKeys == (Tryz.f4.params.toList ++ Rows.optimizerSameSpec.plain.varTypes Tryz.prog ++ Tryz.f4.resultTypes.toList).any (Tryz.prog.wideKeysFrom ·))) = true := by kernel_rfl
theorem optimizerSame_j18 : (Rows.optimizerSameSpec.vars.all (Tryz.prog.varReadable ·)) = true := by kernel_rfl
theorem optimizerSame_j19 : (Tryz.f4.resultTypes.all (fun t => Tryz.prog.readableRec t && decide (t < Tryz.prog.types.size))) = true := by kernel_rfl
theorem optimizerSame_j20 : ((Rows.optimizerSameRow.ifacesOut == Tryz.f4.resultTypes.toList.any (Tryz.prog.ifacesRec ·))) = true := by kernel_rfl
theorem optimizerSame_j21 : ((Rows.optimizerSameRow.loopsOut == Tryz.f4.resultTypes.toList.any (Tryz.prog.loopsFrom ·))) = true := by kernel_rfl
theorem optimizerSame_j22 : ((Rows.optimizerSameRow.plainKeys == Tryz.prog.plainKeys)) = true := by kernel_rfl
theorem optimizerSame_j23 : (Rows.optimizerSameRow.shortTexts.isNone) = true := by kernel_rfl
theorem optimizerSame_j26 : ((Rows.optimizerSameRow.lifted == Tryz.prog.liftsFinal)) = true := by kernel_rfl
theorem optimizerSame_j27 : ((Tryz.prog.make == some Rows.optimizerSameRow.make)) = true := by kernel_rfl
theorem optimizerSame_j28 : ((Rows.optimizerSameRow.kinds == (if Rows.optimizerSameRow.domain.isEmpty then [] else Tryz.f4.params.toList.map fun t => match Tryz.prog.underlying t with | some (.int k) => some k | _ => none))) = true := by kernel_rfl
theorem optimizerSame_j29 : ((Rows.optimizerSameRow.pinned == Rows.optimizerSameRow.pinnedBy)) = true := by kernel_rfl
theorem optimizerSame_j30 : ((Rows.optimizerSameRow.veiled == (Tryz.f4.params.toList ++ Rows.optimizerSameSpec.plain.varTypes Tryz.prog ++ Tryz.f4.resultTypes.toList).any (Tryz.prog.veiledRec ·))) = true := by kernel_rfl
theorem optimizerSame_j31 : (Rows.optimizerSameRow.veiledFits Tryz.prog Tryz.f4.params.toList (Tryz.f4.params.toList ++ Rows.optimizerSameSpec.plain.varTypes Tryz.prog ++ Tryz.f4.resultTypes.toList)) = true := by kernel_rfl
set_option maxRecDepth 100000 in
theorem optimizerSame_joined : joinedFacts Tryz.pinned.checked.prog 4 Tryz.f4 Rows.optimizerSameSpec Rows.optimizerSameRow = true := (dY (dY (dY (dY (dY (dY (dY (dY (dY (dY (dY (dY (dY (dY (dY (dY (dY (dY (dY (dY (dY (dY (dY (dY (dY (dY (dY (dY (dY (dY (dY optimizerSame_j0 laidT) jp2) optimizerSame_j3) optimizerSame_j4) optimizerSame_j5) jp6) optimizerSame_j7) jp8) optimizerSame_j9) optimizerSame_j10) optimizerSame_j11) optimizerSame_j12) optimizerSame_j13) optimizerSame_j14) optimizerSame_j15) optimizerSame_j16) optimizerSame_j17) optimizerSame_j18) optimizerSame_j19) optimizerSame_j20) optimizerSame_j21) optimizerSame_j22) optimizerSame_j23) aiv) aiu) optimizerSame_j26) optimizerSame_j27) optimizerSame_j28) optimizerSame_j29) optimizerSame_j30) optimizerSame_j31)
theorem optimizerSame_named : Tryz.pinned.checked.prog.funcNamed Rows.optimizerSameRow.func = some 4 := by kernel_rfl
theorem optimizerSame_holds : Rows.OptimizerSameSaid :=
  OpenClaim.holds_of_wide 4 Tryz.f4 rfl rfl rfl rfl rfl rfl rfl ⟨rfl, rfl, rfl, rfl, rfl⟩ rfl rfl rfl rfl rfl optimizerSame_named Tryz.func4 optimizerSame_joined
    (of_decide_eq_true (by kernel_rfl)) (by unfold Func.isWrapper; rw [if_neg (of_decide_eq_false (by kernel_rfl))]; exact ⟨rfl, rfl⟩)
    (fun os started H enc _ => optimizerSame_lifted os started H enc)

end Go.Proofs.YtdcofoaihmongaaGreat
