/-
  OptimizerEntries returns true for every input, and leaves its argument as it was. No conditions.
-/
import Derived.Test.YtdcofoaihmongaaGreatS7
namespace Go.Proofs.YtdcofoaihmongaaGreat
open Go Go.RowKit Go.ChangeShapes Go.WideShapes Go.ChangeAt
theorem ownT : ownKnob Tryz.prog.godebug = none := by kernel_rfl
theorem laidT : laidOutB Tryz.prog = true := by kernel_rfl
theorem args_1 {P : Program} {w : World} {t : TypeId} {vs : List Value} (h : Args P w [t] vs) : ∃ a, vs = [a] ∧ Arg P w t a := by
  match vs, h with
  | [a], ⟨h1, _⟩ => exact ⟨a, rfl, h1⟩
theorem args_2 {P : Program} {w : World} {t u : TypeId} {vs : List Value} (h : Args P w [t, u] vs) : ∃ a b, vs = [a, b] ∧ Arg P w t a ∧ Arg P w u b := by
  match vs, h with
  | [a, b], ⟨h1, h2, _⟩ => exact ⟨a, b, rfl, h1, h2⟩

set_option maxRecDepth 100000 in
theorem optimizerEntries_lifted (os : Os) (started : os.Started) (H : Type) (enc : TypeId × Value → H) :
    ReturnsInHanded {} Tryz.checked os 10 .any (Rows.optimizerEntriesSpec.pre6 enc Tryz.prog Tryz.f10 Rows.optimizerEntriesRow.domain false) (Rows.optimizerEntriesSpec.post enc Tryz.prog Tryz.f10 false true false false) := by
  refine tI (C := Tryz.checked) ownT laidT started (by kernel_rfl) Tryz.func10 rfl 4 (by kernel_rfl) Tryz.underlying4 (by kernel_rfl) ?_
    (ChangeSpec.witness6 (enc := enc) (C := Tryz.checked) false ⟨#[], #[.agg #[.slice none 0 0, .slice none 0 0, .slice none 0 0, .slice none 0 0, .slice none 0 0, .slice none 0 0, .slice none 0 0, .slice none 0 0, .slice none 0 0, .slice none 0 0, .slice none 0 0, .slice none 0 0, .slice none 0 0, .slice none 0 0, .slice none 0 0, .slice none 0 0, .slice none 0 0]], []⟩ 8 (by kernel_rfl) (by kernel_rfl) (by kernel_rfl) (by kernel_rfl)) ?_
  · intro ds hd
    rw [Tryz.params10] at hd
    match ds, hd with
    | [a], _ => rfl
  · intro W args hA
    have hA' : Args Tryz.prog W Tryz.f10.params.toList args.toList := hA
    rw [Tryz.params10] at hA'
    obtain ⟨a, he, h1⟩ := args_1 hA'
    obtain rfl : args = #[a] := by rw [← Array.toArray_toList (xs := args), he]
    obtain ⟨c0, c1, c2, c3, c4, c5, c6, c7, c8, c9, aR, aO, aN, aQ, aM, aL, aP, p, rfl, hp, hok⟩ := BA h1
    exact Kk W c0 c1 c2 c3 c4 c5 c6 c7 c8 c9 aR aO aN aQ aM aL aP p hp hok

theorem optimizerEntries_j0 : (Rows.optimizerEntriesRow.wf (OpenSpec.ofChange Rows.optimizerEntriesSpec)) = true := by kernel_rfl
theorem optimizerEntries_j3 : (Tryz.f10.params.all (Tryz.prog.readableRec ·)) = true := by kernel_rfl
theorem optimizerEntries_j4 : (namedTie Tryz.prog Rows.optimizerEntriesRow.named Rows.optimizerEntriesSpec.vars) = true := by kernel_rfl
theorem optimizerEntries_j5 : ((Rows.optimizerEntriesRow.stops == [])) = true := by kernel_rfl
theorem optimizerEntries_j7 : ((Rows.optimizerEntriesRow.knobs == [])) = true := by kernel_rfl
theorem optimizerEntries_j9 : ((Rows.optimizerEntriesRow.inPlace == Tryz.prog.inPlace 10)) = true := by kernel_rfl
theorem optimizerEntries_j10 : ((Rows.optimizerEntriesRow.unfollowed == Tryz.prog.unfollowed 10)) = true := by kernel_rfl
theorem optimizerEntries_j11 : ((Rows.optimizerEntriesRow.recurses == Tryz.prog.recurses 10)) = true := by kernel_rfl
theorem optimizerEntries_j12 : ((Rows.optimizerEntriesRow.named == Tryz.prog.varsNamed 10)) = true := by kernel_rfl
theorem optimizerEntries_j13 : ((Rows.optimizerEntriesRow.maps == (Tryz.f10.params.toList ++ Rows.optimizerEntriesSpec.plain.varTypes Tryz.prog).any (Tryz.prog.mapsRec ·))) = true := by kernel_rfl
theorem optimizerEntries_j14 : ((Rows.optimizerEntriesRow.ifaces == (Tryz.f10.params.toList ++ Rows.optimizerEntriesSpec.plain.varTypes Tryz.prog).any (Tryz.prog.ifacesRec ·))) = true := by kernel_rfl
theorem optimizerEntries_j15 : ((Rows.optimizerEntriesRow.mapsOut == Tryz.prog.mapsAmong Tryz.f10.resultTypes.toList)) = true := by kernel_rfl
theorem optimizerEntries_j16 : ((Rows.optimizerEntriesRow.loops == (Tryz.f10.params.toList ++ Rows.optimizerEntriesSpec.plain.varTypes Tryz.prog).any (Tryz.prog.loopsFrom ·))) = true := by kernel_rfl
theorem optimizerEntries_j17 : ((Rows.optimizerEntriesRow.wideKeys == (Tryz.f10.params.toList ++ Rows.optimizerEntriesSpec.plain.varTypes Tryz.prog ++ Tryz.f10.resultTypes.toList).any (Tryz.prog.wideKeysFrom ·))) = true := by kernel_rfl
theorem optimizerEntries_j18 : (Rows.optimizerEntriesSpec.vars.all (Tryz.prog.varReadable ·)) = true := by kernel_rfl
theorem optimizerEntries_j19 : (Tryz.f10.resultTypes.all (fun t => Tryz.prog.readableRec t && decide (t < Tryz.prog.types.size))) = true := by kernel_rfl
theorem optimizerEntries_j20 : ((Rows.optimizerEntriesRow.ifacesOut == Tryz.f10.resultTypes.toList.any (Tryz.prog.ifacesRec ·))) = true := by kernel_rfl
theorem optimizerEntries_j21 : ((Rows.optimizerEntriesRow.loopsOut == Tryz.f10.resultTypes.toList.any (Tryz.prog.loopsFrom ·))) = true := by kernel_rfl
theorem optimizerEntries_j22 : ((Rows.optimizerEntriesRow.plainKeys == Tryz.prog.plainKeys)) = true := by kernel_rfl
theorem optimizerEntries_j23 : (Rows.optimizerEntriesRow.shortTexts.isNone) = true := by kernel_rfl
theorem optimizerEntries_j26 : ((Rows.optimizerEntriesRow.lifted == Tryz.prog.liftsFinal)) = true := by kernel_rfl
theorem optimizerEntries_j27 : ((Tryz.prog.make == some Rows.optimizerEntriesRow.make)) = true := by kernel_rfl
theorem optimizerEntries_j28 : ((Rows.optimizerEntriesRow.kinds == (if Rows.optimizerEntriesRow.domain.isEmpty then [] else Tryz.f10.params.toList.map fun t => match Tryz.prog.underlying t with | some (.int k) => some k | _ => none))) = true := by kernel_rfl
theorem optimizerEntries_j29 : ((Rows.optimizerEntriesRow.pinned == Rows.optimizerEntriesRow.pinnedBy)) = true := by kernel_rfl
theorem optimizerEntries_j30 : ((Rows.optimizerEntriesRow.veiled == (Tryz.f10.params.toList ++ Rows.optimizerEntriesSpec.plain.varTypes Tryz.prog ++ Tryz.f10.resultTypes.toList).any (Tryz.prog.veiledRec ·))) = true := by kernel_rfl
theorem optimizerEntries_j31 : (Rows.optimizerEntriesRow.veiledFits Tryz.prog Tryz.f10.params.toList (Tryz.f10.params.toList ++ Rows.optimizerEntriesSpec.plain.varTypes Tryz.prog ++ Tryz.f10.resultTypes.toList)) = true := by kernel_rfl
set_option maxRecDepth 100000 in
theorem optimizerEntries_joined : joinedFacts Tryz.pinned.checked.prog 10 Tryz.f10 Rows.optimizerEntriesSpec Rows.optimizerEntriesRow = true := (aY (aY (aY (aY (aY (aY (aY (aY (aY (aY (aY (aY (aY (aY (aY (aY (aY (aY (aY (aY (aY (aY (aY (aY (aY (aY (aY (aY (aY (aY (aY optimizerEntries_j0 laidT) jp2) optimizerEntries_j3) optimizerEntries_j4) optimizerEntries_j5) jp6) optimizerEntries_j7) jp8) optimizerEntries_j9) optimizerEntries_j10) optimizerEntries_j11) optimizerEntries_j12) optimizerEntries_j13) optimizerEntries_j14) optimizerEntries_j15) optimizerEntries_j16) optimizerEntries_j17) optimizerEntries_j18) optimizerEntries_j19) optimizerEntries_j20) optimizerEntries_j21) optimizerEntries_j22) optimizerEntries_j23) acr) acq) optimizerEntries_j26) optimizerEntries_j27) optimizerEntries_j28) optimizerEntries_j29) optimizerEntries_j30) optimizerEntries_j31)
theorem optimizerEntries_named : Tryz.pinned.checked.prog.funcNamed Rows.optimizerEntriesRow.func = some 10 := by kernel_rfl
theorem optimizerEntries_holds : Rows.OptimizerEntriesSaid :=
  OpenClaim.holds_of_wide 10 Tryz.f10 rfl rfl rfl rfl rfl rfl rfl ⟨rfl, rfl, rfl, rfl, rfl⟩ rfl rfl rfl rfl rfl optimizerEntries_named Tryz.func10 optimizerEntries_joined
    (of_decide_eq_true (by kernel_rfl)) (by unfold Func.isWrapper; rw [if_neg (of_decide_eq_false (by kernel_rfl))]; exact ⟨rfl, rfl⟩)
    (fun os started H enc _ => optimizerEntries_lifted os started H enc)

end Go.Proofs.YtdcofoaihmongaaGreat
