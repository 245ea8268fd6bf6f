/-
  OptimizerJoins and OptimizerRemoves return true for every input, and leave their arguments as they were. No conditions.
-/
import Derived.Test.YtdcofoaihmongaaGreatS6
namespace Go.Proofs.YtdcofoaihmongaaGreat
open Go Go.RowKit Go.ChangeShapes Go.WideShapes Go.ChangeAt
theorem ownT : ownKnob Tryz.prog.godebug = none := by kernel_rfl
theorem laidT : laidOutB Tryz.prog = true := by kernel_rfl
theorem args_1 {P : Program} {w : World} {t : TypeId} {vs : List Value} (h : Args P w [t] vs) : ∃ a, vs = [a] ∧ Arg P w t a := by
  match vs, h with
  | [a], ⟨h1, _⟩ => exact ⟨a, rfl, h1⟩
theorem args_2 {P : Program} {w : World} {t u : TypeId} {vs : List Value} (h : Args P w [t, u] vs) : ∃ a b, vs = [a, b] ∧ Arg P w t a ∧ Arg P w u b := by
  match vs, h with
  | [a, b], ⟨h1, h2, _⟩ => exact ⟨a, b, rfl, h1, h2⟩
set_option maxRecDepth 100000 in
theorem all_int {w : World} {f : Nat} : ∀ (es : List (List Value)), (∀ x ∈ es, x.length = Tryz.prog.cellsOf 3 ∧ Rd Tryz.prog w f 3 x) → ∃ l : List Int, es.flatten = l.flatMap anyI ∧ es.length = l.length
  | [], _ => ⟨[], rfl, rfl⟩
  | x :: es, h => by
    obtain ⟨o, rfl, -⟩ := (h x (by simp)).2.int Tryz.underlying3
    obtain ⟨l, h1, h2⟩ := all_int es fun y hy => h y (by simp [hy])
    exact ⟨o :: l, by rw [List.flatten_cons, h1]; rfl, by simp [h2]⟩
set_option maxRecDepth 100000 in
theorem ints_open {w : World} {v : Value} (h : Arg Tryz.prog w 64 v) : ∃ l : List Int, SliceAt w v 1 l.length (l.flatMap anyI) := by
  obtain ⟨f, cs, h, rfl⟩ := h
  rw [Tryz.underlying64]
  obtain ⟨f', v, rfl, rfl, es, h1, h2, _⟩ := h.slice Tryz.underlying64
  obtain ⟨l, e1, e2⟩ := all_int es h2
  refine ⟨l, ?_⟩
  rw [e1, e2, show Tryz.prog.cellsOf 3 = 1 from by kernel_rfl] at h1
  exact h1

set_option maxRecDepth 100000 in
theorem optimizerJoins_lifted (os : Os) (started : os.Started) (H : Type) (enc : TypeId × Value → H) :
    ReturnsInHanded {} Tryz.checked os 7 .any (Rows.optimizerJoinsSpec.pre6 enc Tryz.prog Tryz.f7 Rows.optimizerJoinsRow.domain false) (Rows.optimizerJoinsSpec.post enc Tryz.prog Tryz.f7 false true false false) := by
  refine tI (C := Tryz.checked) ownT laidT started (by kernel_rfl) Tryz.func7 rfl 4 (by kernel_rfl) Tryz.underlying4 (by kernel_rfl) ?_
    (ChangeSpec.witness6 (enc := enc) (C := Tryz.checked) false ⟨#[], #[.agg #[.slice none 0 0, .slice none 0 0, .slice none 0 0, .slice none 0 0, .slice none 0 0, .slice none 0 0, .slice none 0 0, .slice none 0 0, .slice none 0 0, .slice none 0 0, .slice none 0 0, .slice none 0 0, .slice none 0 0, .slice none 0 0, .slice none 0 0, .slice none 0 0, .slice none 0 0]], []⟩ 8 (by kernel_rfl) (by kernel_rfl) (by kernel_rfl) (by kernel_rfl)) ?_
  · intro ds hd
    rw [Tryz.params7] at hd
    match ds, hd with
    | [a], _ => rfl
  · intro W args hA
    have hA' : Args Tryz.prog W Tryz.f7.params.toList args.toList := hA
    rw [Tryz.params7] at hA'
    obtain ⟨a, he, h1⟩ := args_1 hA'
    obtain rfl : args = #[a] := by rw [← Array.toArray_toList (xs := args), he]
    obtain ⟨c0, c1, c2, c3, c4, c5, c6, c7, c8, c9, aR, aO, aN, aQ, aM, aL, aP, p, rfl, hp, hok⟩ := BA h1
    exact RU W c0 c1 c2 c3 c4 c5 c6 c7 c8 c9 aR aO aN aQ aM aL aP p hp hok

theorem optimizerJoins_j0 : (Rows.optimizerJoinsRow.wf (OpenSpec.ofChange Rows.optimizerJoinsSpec)) = true := by kernel_rfl
theorem optimizerJoins_j3 : (Tryz.f7.params.all (Tryz.prog.readableRec ·)) = true := by kernel_rfl
theorem optimizerJoins_j4 : (namedTie Tryz.prog Rows.optimizerJoinsRow.named Rows.optimizerJoinsSpec.vars) = true := by kernel_rfl
theorem optimizerJoins_j5 : ((Rows.optimizerJoinsRow.stops == [])) = true := by kernel_rfl
theorem optimizerJoins_j7 : ((Rows.optimizerJoinsRow.knobs == [])) = true := by kernel_rfl
theorem optimizerJoins_j9 : ((Rows.optimizerJoinsRow.inPlace == Tryz.prog.inPlace 7)) = true := by kernel_rfl
theorem optimizerJoins_j10 : ((Rows.optimizerJoinsRow.unfollowed == Tryz.prog.unfollowed 7)) = true := by kernel_rfl
theorem optimizerJoins_j11 : ((Rows.optimizerJoinsRow.recurses == Tryz.prog.recurses 7)) = true := by kernel_rfl
theorem optimizerJoins_j12 : ((Rows.optimizerJoinsRow.named == Tryz.prog.varsNamed 7)) = true := by kernel_rfl
theorem optimizerJoins_j13 : ((Rows.optimizerJoinsRow.maps == (Tryz.f7.params.toList ++ Rows.optimizerJoinsSpec.plain.varTypes Tryz.prog).any (Tryz.prog.mapsRec ·))) = true := by kernel_rfl
theorem optimizerJoins_j14 : ((Rows.optimizerJoinsRow.ifaces == (Tryz.f7.params.toList ++ Rows.optimizerJoinsSpec.plain.varTypes Tryz.prog).any (Tryz.prog.ifacesRec ·))) = true := by kernel_rfl
theorem optimizerJoins_j15 : ((Rows.optimizerJoinsRow.mapsOut == Tryz.prog.mapsAmong Tryz.f7.resultTypes.toList)) = true := by kernel_rfl
theorem optimizerJoins_j16 : ((Rows.optimizerJoinsRow.loops == (Tryz.f7.params.toList ++ Rows.optimizerJoinsSpec.plain.varTypes Tryz.prog).any (Tryz.prog.loopsFrom ·))) = true := by kernel_rfl
theorem optimizerJoins_j17 : ((Rows.optimizerJoinsRow.wideKeys == (Tryz.f7.params.toList ++ Rows.optimizerJoinsSpec.plain.varTypes Tryz.prog ++ Tryz.f7.resultTypes.toList).any (Tryz.prog.wideKeysFrom ·))) = true := by kernel_rfl
theorem optimizerJoins_j18 : (Rows.optimizerJoinsSpec.vars.all (Tryz.prog.varReadable ·)) = true := by kernel_rfl
theorem optimizerJoins_j19 : (Tryz.f7.resultTypes.all (fun t => Tryz.prog.readableRec t && decide (t < Tryz.prog.types.size))) = true := by kernel_rfl
theorem optimizerJoins_j20 : ((Rows.optimizerJoinsRow.ifacesOut == Tryz.f7.resultTypes.toList.any (Tryz.prog.ifacesRec ·))) = true := by kernel_rfl
theorem optimizerJoins_j21 : ((Rows.optimizerJoinsRow.loopsOut == Tryz.f7.resultTypes.toList.any (Tryz.prog.loopsFrom ·))) = true := by kernel_rfl
theorem optimizerJoins_j22 : ((Rows.optimizerJoinsRow.plainKeys == Tryz.prog.plainKeys)) = true := by kernel_rfl
theorem optimizerJoins_j23 : (Rows.optimizerJoinsRow.shortTexts.isNone) = true := by kernel_rfl
theorem optimizerJoins_j26 : ((Rows.optimizerJoinsRow.lifted == Tryz.prog.liftsFinal)) = true := by kernel_rfl
theorem optimizerJoins_j27 : ((Tryz.prog.make == some Rows.optimizerJoinsRow.make)) = true := by kernel_rfl
theorem optimizerJoins_j28 : ((Rows.optimizerJoinsRow.kinds == (if Rows.optimizerJoinsRow.domain.isEmpty then [] else Tryz.f7.params.toList.map fun t => match Tryz.prog.underlying t with | some (.int k) => some k | _ => none))) = true := by kernel_rfl
theorem optimizerJoins_j29 : ((Rows.optimizerJoinsRow.pinned == Rows.optimizerJoinsRow.pinnedBy)) = true := by kernel_rfl
theorem optimizerJoins_j30 : ((Rows.optimizerJoinsRow.veiled == (Tryz.f7.params.toList ++ Rows.optimizerJoinsSpec.plain.varTypes Tryz.prog ++ Tryz.f7.resultTypes.toList).any (Tryz.prog.veiledRec ·))) = true := by kernel_rfl
theorem optimizerJoins_j31 : (Rows.optimizerJoinsRow.veiledFits Tryz.prog Tryz.f7.params.toList (Tryz.f7.params.toList ++ Rows.optimizerJoinsSpec.plain.varTypes Tryz.prog ++ Tryz.f7.resultTypes.toList)) = true := by kernel_rfl
set_option maxRecDepth 100000 in
theorem optimizerJoins_joined : joinedFacts Tryz.pinned.checked.prog 7 Tryz.f7 Rows.optimizerJoinsSpec Rows.optimizerJoinsRow = true := (aY (aY (aY (aY (aY (aY (aY (aY (aY (aY (aY (aY (aY (aY (aY (aY (aY (aY (aY (aY (aY (aY (aY (aY (aY (aY (aY (aY (aY (aY (aY optimizerJoins_j0 laidT) jp2) optimizerJoins_j3) optimizerJoins_j4) optimizerJoins_j5) jp6) optimizerJoins_j7) jp8) optimizerJoins_j9) optimizerJoins_j10) optimizerJoins_j11) optimizerJoins_j12) optimizerJoins_j13) optimizerJoins_j14) optimizerJoins_j15) optimizerJoins_j16) optimizerJoins_j17) optimizerJoins_j18) optimizerJoins_j19) optimizerJoins_j20) optimizerJoins_j21) optimizerJoins_j22) optimizerJoins_j23) acr) acq) optimizerJoins_j26) optimizerJoins_j27) optimizerJoins_j28) optimizerJoins_j29) optimizerJoins_j30) optimizerJoins_j31)
theorem optimizerJoins_named : Tryz.pinned.checked.prog.funcNamed Rows.optimizerJoinsRow.func = some 7 := by kernel_rfl
theorem optimizerJoins_holds : Rows.OptimizerJoinsSaid :=
  OpenClaim.holds_of_wide 7 Tryz.f7 rfl rfl rfl rfl rfl rfl rfl ⟨rfl, rfl, rfl, rfl, rfl⟩ rfl rfl rfl rfl rfl optimizerJoins_named Tryz.func7 optimizerJoins_joined
    (of_decide_eq_true (by kernel_rfl)) (by unfold Func.isWrapper; rw [if_neg (of_decide_eq_false (by kernel_rfl))]; exact ⟨rfl, rfl⟩)
    (fun os started H enc _ => optimizerJoins_lifted os started H enc)


set_option maxRecDepth 100000 in
theorem optimizerRemoves_lifted (os : Os) (started : os.Started) (H : Type) (enc : TypeId × Value → H) :
    ReturnsInHanded {} Tryz.checked os 6 .any (Rows.optimizerRemovesSpec.pre6 enc Tryz.prog Tryz.f6 Rows.optimizerRemovesRow.domain false) (Rows.optimizerRemovesSpec.post enc Tryz.prog Tryz.f6 false true false false) := by
  refine tI (C := Tryz.checked) ownT laidT started (by kernel_rfl) Tryz.func6 rfl 4 (by kernel_rfl) Tryz.underlying4 (by kernel_rfl) ?_
    (ChangeSpec.witness6 (enc := enc) (C := Tryz.checked) false ⟨#[], #[.agg #[.slice none 0 0, .slice none 0 0, .slice none 0 0, .slice none 0 0, .slice none 0 0, .slice none 0 0, .slice none 0 0, .slice none 0 0, .slice none 0 0, .slice none 0 0, .slice none 0 0, .slice none 0 0, .slice none 0 0, .slice none 0 0, .slice none 0 0, .slice none 0 0, .slice none 0 0], .slice none 0 0], []⟩ 8 (by kernel_rfl) (by kernel_rfl) (by kernel_rfl) (by kernel_rfl)) ?_
  · intro ds hd
    rw [Tryz.params6] at hd
    match ds, hd with
    | [a, b], _ => rfl
  · intro W args hA
    have hA' : Args Tryz.prog W Tryz.f6.params.toList args.toList := hA
    rw [Tryz.params6] at hA'
    obtain ⟨a, b, he, h1, h2⟩ := args_2 hA'
    obtain rfl : args = #[a, b] := by rw [← Array.toArray_toList (xs := args), he]
    obtain ⟨c0, c1, c2, c3, c4, c5, c6, c7, c8, c9, aR, aO, aN, aQ, aM, aL, aP, p, rfl, hp, hok⟩ := BA h1
    obtain ⟨o, ho⟩ := ints_open h2
    exact Jl W c0 c1 c2 c3 c4 c5 c6 c7 c8 c9 aR aO aN aQ aM aL aP p hp hok b o ho

theorem optimizerRemoves_j0 : (Rows.optimizerRemovesRow.wf (OpenSpec.ofChange Rows.optimizerRemovesSpec)) = true := by kernel_rfl
theorem optimizerRemoves_j3 : (Tryz.f6.params.all (Tryz.prog.readableRec ·)) = true := by kernel_rfl
theorem optimizerRemoves_j4 : (namedTie Tryz.prog Rows.optimizerRemovesRow.named Rows.optimizerRemovesSpec.vars) = true := by kernel_rfl
theorem optimizerRemoves_j5 : ((Rows.optimizerRemovesRow.stops == [])) = true := by kernel_rfl
theorem optimizerRemoves_j7 : ((Rows.optimizerRemovesRow.knobs == [])) = true := by kernel_rfl
theorem optimizerRemoves_j9 : ((Rows.optimizerRemovesRow.inPlace == Tryz.prog.inPlace 6)) = true := by kernel_rfl
theorem optimizerRemoves_j10 : ((Rows.optimizerRemovesRow.unfollowed == Tryz.prog.unfollowed 6)) = true := by kernel_rfl
theorem optimizerRemoves_j11 : ((Rows.optimizerRemovesRow.recurses == Tryz.prog.recurses 6)) = true := by kernel_rfl
theorem optimizerRemoves_j12 : ((Rows.optimizerRemovesRow.named == Tryz.prog.varsNamed 6)) = true := by kernel_rfl
theorem optimizerRemoves_j13 : ((Rows.optimizerRemovesRow.maps == (Tryz.f6.params.toList ++ Rows.optimizerRemovesSpec.plain.varTypes Tryz.prog).any (Tryz.prog.mapsRec ·))) = true := by kernel_rfl
theorem optimizerRemoves_j14 : ((Rows.optimizerRemovesRow.ifaces == (Tryz.f6.params.toList ++ Rows.optimizerRemovesSpec.plain.varTypes Tryz.prog).any (Tryz.prog.ifacesRec ·))) = true := by kernel_rfl
theorem optimizerRemoves_j15 : ((Rows.optimizerRemovesRow.mapsOut == Tryz.prog.mapsAmong Tryz.f6.resultTypes.toList)) = true := by kernel_rfl
theorem optimizerRemoves_j16 : ((Rows.optimizerRemovesRow.loops == (Tryz.f6.params.toList ++ Rows.optimizerRemovesSpec.plain.varTypes Tryz.prog).any (Tryz.prog.loopsFrom ·))) = true := by kernel_rfl
theorem optimizerRemoves_j17 : ((Rows.optimizerRemovesRow.wideKeys == (Tryz.f6.params.toList ++ Rows.optimizerRemovesSpec.plain.varTypes Tryz.prog ++ Tryz.f6.resultTypes.toList).any (Tryz.prog.wideKeysFrom ·))) = true := by kernel_rfl
theorem optimizerRemoves_j18 : (Rows.optimizerRemovesSpec.vars.all (Tryz.prog.varReadable ·)) = true := by kernel_rfl
theorem optimizerRemoves_j19 : (Tryz.f6.resultTypes.all (fun t => Tryz.prog.readableRec t && decide (t < Tryz.prog.types.size))) = true := by kernel_rfl
theorem optimizerRemoves_j20 : ((Rows.optimizerRemovesRow.ifacesOut == Tryz.f6.resultTypes.toList.any (Tryz.prog.ifacesRec ·))) = true := by kernel_rfl
theorem optimizerRemoves_j21 : ((Rows.optimizerRemovesRow.loopsOut == Tryz.f6.resultTypes.toList.any (Tryz.prog.loopsFrom ·))) = true := by kernel_rfl
theorem optimizerRemoves_j22 : ((Rows.optimizerRemovesRow.plainKeys == Tryz.prog.plainKeys)) = true := by kernel_rfl
theorem optimizerRemoves_j23 : (Rows.optimizerRemovesRow.shortTexts.isNone) = true := by kernel_rfl
theorem optimizerRemoves_j26 : ((Rows.optimizerRemovesRow.lifted == Tryz.prog.liftsFinal)) = true := by kernel_rfl
theorem optimizerRemoves_j27 : ((Tryz.prog.make == some Rows.optimizerRemovesRow.make)) = true := by kernel_rfl
theorem optimizerRemoves_j28 : ((Rows.optimizerRemovesRow.kinds == (if Rows.optimizerRemovesRow.domain.isEmpty then [] else Tryz.f6.params.toList.map fun t => match Tryz.prog.underlying t with | some (.int k) => some k | _ => none))) = true := by kernel_rfl
theorem optimizerRemoves_j29 : ((Rows.optimizerRemovesRow.pinned == Rows.optimizerRemovesRow.pinnedBy)) = true := by kernel_rfl
theorem optimizerRemoves_j30 : ((Rows.optimizerRemovesRow.veiled == (Tryz.f6.params.toList ++ Rows.optimizerRemovesSpec.plain.varTypes Tryz.prog ++ Tryz.f6.resultTypes.toList).any (Tryz.prog.veiledRec ·))) = true := by kernel_rfl
theorem optimizerRemoves_j31 : (Rows.optimizerRemovesRow.veiledFits Tryz.prog Tryz.f6.params.toList (Tryz.f6.params.toList ++ Rows.optimizerRemovesSpec.plain.varTypes Tryz.prog ++ Tryz.f6.resultTypes.toList)) = true := by kernel_rfl
set_option maxRecDepth 100000 in
theorem optimizerRemoves_joined : joinedFacts Tryz.pinned.checked.prog 6 Tryz.f6 Rows.optimizerRemovesSpec Rows.optimizerRemovesRow = true := (aY (aY (aY (aY (aY (aY (aY (aY (aY (aY (aY (aY (aY (aY (aY (aY (aY (aY (aY (aY (aY (aY (aY (aY (aY (aY (aY (aY (aY (aY (aY optimizerRemoves_j0 laidT) jp2) optimizerRemoves_j3) optimizerRemoves_j4) optimizerRemoves_j5) jp6) optimizerRemoves_j7) jp8) optimizerRemoves_j9) optimizerRemoves_j10) optimizerRemoves_j11) optimizerRemoves_j12) optimizerRemoves_j13) optimizerRemoves_j14) optimizerRemoves_j15) optimizerRemoves_j16) optimizerRemoves_j17) optimizerRemoves_j18) optimizerRemoves_j19) optimizerRemoves_j20) optimizerRemoves_j21) optimizerRemoves_j22) optimizerRemoves_j23) acr) acq) optimizerRemoves_j26) optimizerRemoves_j27) optimizerRemoves_j28) optimizerRemoves_j29) optimizerRemoves_j30) optimizerRemoves_j31)
theorem optimizerRemoves_named : Tryz.pinned.checked.prog.funcNamed Rows.optimizerRemovesRow.func = some 6 := by kernel_rfl
theorem optimizerRemoves_holds : Rows.OptimizerRemovesSaid :=
  OpenClaim.holds_of_wide 6 Tryz.f6 rfl rfl rfl rfl rfl rfl rfl ⟨rfl, rfl, rfl, rfl, rfl⟩ rfl rfl rfl rfl rfl optimizerRemoves_named Tryz.func6 optimizerRemoves_joined
    (of_decide_eq_true (by kernel_rfl)) (by unfold Func.isWrapper; rw [if_neg (of_decide_eq_false (by kernel_rfl))]; exact ⟨rfl, rfl⟩)
    (fun os started H enc _ => optimizerRemoves_lifted os started H enc)

end Go.Proofs.YtdcofoaihmongaaGreat
