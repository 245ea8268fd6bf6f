/-
  OptimizerDecides returns true for every input, and leaves its arguments as they were. No conditions.
-/
import Derived.Test.YtdcofoaihmongaaGreatS6
namespace Go.Proofs.YtdcofoaihmongaaGreat
open Go Go.RowKit Go.ChangeShapes Go.WideShapes Go.ChangeAt
theorem ownT : ownKnob Tryz.prog.godebug = none := by kernel_rfl
theorem laidT : laidOutB Tryz.prog = true := by kernel_rfl
theorem args_1 {P : Program} {w : World} {t : TypeId} {vs : List Value} (h : Args P w [t] vs) : ∃ a, vs = [a] ∧ Arg P w t a := by
  match vs, h with
  | [a], ⟨h1, _⟩ => exact ⟨a, rfl, h1⟩
theorem args_2 {P : Program} {w : World} {t u : TypeId} {vs : List Value} (h : Args P w [t, u] vs) : ∃ a b, vs = [a, b] ∧ Arg P w t a ∧ Arg P w u b := by
  match vs, h with
  | [a, b], ⟨h1, h2, _⟩ => exact ⟨a, b, rfl, h1, h2⟩
set_option maxRecDepth 100000 in
theorem all_bool {w : World} {f : Nat} : ∀ (es : List (List Value)), (∀ x ∈ es, x.length = Tryz.prog.cellsOf 4 ∧ Rd Tryz.prog w f 4 x) → ∃ l : List Bool, es.flatten = l.map Value.bool ∧ es.length = l.length
  | [], _ => ⟨[], rfl, rfl⟩
  | x :: es, h => by
    obtain ⟨o, rfl⟩ := (h x (by simp)).2.bool Tryz.underlying4
    obtain ⟨l, h1, h2⟩ := all_bool es fun y hy => h y (by simp [hy])
    exact ⟨o :: l, by rw [List.flatten_cons, h1]; rfl, by simp [h2]⟩
set_option maxRecDepth 100000 in
theorem bools_rd {w : World} {f : Nat} {cs : List Value} (h : Rd Tryz.prog w f 40 cs) : ∃ v l, cs = [v] ∧ oG w v l := by
  obtain ⟨f', v, rfl, rfl, es, h1, h2, _⟩ := h.slice Tryz.underlying40
  obtain ⟨l, e1, e2⟩ := all_bool es h2
  refine ⟨v, l, rfl, ?_⟩
  rw [e1, e2, show Tryz.prog.cellsOf 4 = 1 from by kernel_rfl] at h1
  exact h1
set_option maxRecDepth 100000 in
theorem ques_open {w : World} {v : Value} (h : Arg Tryz.prog w 76 v) : ∃ (bv : Value) (st : List Bool) (s t : dI) (cls : Int), v = .agg #[bv, .int .i64 s.user, .int .i64 s.role, .int .i64 s.typ, .int .i64 s.rng.low.aC, .int .u64 s.rng.low.cats, .int .i64 s.rng.high.aC, .int .u64 s.rng.high.cats, .int .i64 t.user, .int .i64 t.role, .int .i64 t.typ, .int .i64 t.rng.low.aC, .int .u64 t.rng.low.cats, .int .i64 t.rng.high.aC, .int .u64 t.rng.high.cats, .int .i64 cls] ∧ oG w bv st ∧ s.Ok ∧ t.Ok := by
  obtain ⟨f, cs, h, rfl⟩ := h
  rw [Tryz.underlying76]
  obtain ⟨f', rfl, h⟩ := h.struct Tryz.underlying76
  obtain ⟨c0, _, rfl, -, r0, c1, _, rfl, -, r1, c2, _, rfl, -, r2, c3, _, rfl, -, r3, hn⟩ := h
  obtain rfl : _ = [] := hn
  obtain ⟨bv, st, rfl, hb⟩ := bools_rd r0
  obtain ⟨s, rfl, hs⟩ := qX r1
  obtain ⟨t, rfl, ht⟩ := qX r2
  obtain ⟨c, rfl, -⟩ := r3.int Tryz.underlying3
  exact ⟨bv, st, s, t, c, rfl, hb, hs, ht⟩

set_option maxRecDepth 100000 in
theorem optimizerDecides_lifted (os : Os) (started : os.Started) (H : Type) (enc : TypeId × Value → H) :
    ReturnsInHanded {} Tryz.checked os 9 .any (Rows.optimizerDecidesSpec.pre6 enc Tryz.prog Tryz.f9 Rows.optimizerDecidesRow.domain false) (Rows.optimizerDecidesSpec.post enc Tryz.prog Tryz.f9 false true false false) := by
  refine Lg (C := Tryz.checked) ownT laidT started (by kernel_rfl) Tryz.func9 rfl 4 (by kernel_rfl) Tryz.underlying4 (by kernel_rfl) ?_
    (ChangeSpec.witness6 (enc := enc) (C := Tryz.checked) false ⟨#[], #[.agg #[.slice none 0 0, .slice none 0 0, .slice none 0 0, .slice none 0 0, .slice none 0 0, .slice none 0 0, .slice none 0 0, .slice none 0 0, .slice none 0 0, .slice none 0 0, .slice none 0 0, .slice none 0 0, .slice none 0 0, .slice none 0 0, .slice none 0 0, .slice none 0 0, .slice none 0 0], .agg #[.slice none 0 0, .int .i64 0, .int .i64 0, .int .i64 0, .int .i64 0, .int .u64 0, .int .i64 0, .int .u64 0, .int .i64 0, .int .i64 0, .int .i64 0, .int .i64 0, .int .u64 0, .int .i64 0, .int .u64 0, .int .i64 0]], []⟩ 8 (by kernel_rfl) (by kernel_rfl) (by kernel_rfl) (by kernel_rfl)) ?_
  · intro ds hd
    rw [Tryz.params9] at hd
    match ds, hd with
    | [a, b], _ => rfl
  · intro W args hA
    have hA' : Args Tryz.prog W Tryz.f9.params.toList args.toList := hA
    rw [Tryz.params9] at hA'
    obtain ⟨a, b, he, h1, h2⟩ := args_2 hA'
    obtain rfl : args = #[a, b] := by rw [← Array.toArray_toList (xs := args), he]
    obtain ⟨c0, c1, c2, c3, c4, c5, c6, c7, c8, c9, aS, aN, aM, aR, aQ, aP, aO, p, rfl, hp, hok⟩ := Ss h1
    obtain ⟨bv, st, s, t, cls, rfl, hb, hs, ht⟩ := ques_open h2
    exact IQ W c0 c1 c2 c3 c4 c5 c6 c7 c8 c9 aS aN aM aR aQ aP aO p hp hok bv st hb s t hs ht cls

theorem optimizerDecides_j0 : (Rows.optimizerDecidesRow.wf (OpenSpec.ofChange Rows.optimizerDecidesSpec)) = true := by kernel_rfl
theorem optimizerDecides_j3 : (Tryz.f9.params.all (Tryz.prog.readableRec ·)) = true := by kernel_rfl
theorem optimizerDecides_j4 : (namedTie Tryz.prog Rows.optimizerDecidesRow.named Rows.optimizerDecidesSpec.vars) = true := by kernel_rfl
theorem optimizerDecides_j5 : ((Rows.optimizerDecidesRow.stops == [])) = true := by kernel_rfl
theorem optimizerDecides_j7 : ((Rows.optimizerDecidesRow.knobs == [])) = true := by kernel_rfl
theorem optimizerDecides_j9 : ((Rows.optimizerDecidesRow.inPlace == Tryz.prog.inPlace 9)) = true := by kernel_rfl
theorem optimizerDecides_j10 : ((Rows.optimizerDecidesRow.unfollowed == Tryz.prog.unfollowed 9)) = true := by kernel_rfl
theorem optimizerDecides_j11 : ((Rows.optimizerDecidesRow.recurses == Tryz.prog.recurses 9)) = true := by kernel_rfl
theorem optimizerDecides_j12 : ((Rows.optimizerDecidesRow.named == Tryz.prog.varsNamed 9)) = true := by kernel_rfl
theorem optimizerDecides_j13 : ((Rows.optimizerDecidesRow.maps == (Tryz.f9.params.toList ++ Rows.optimizerDecidesSpec.plain.varTypes Tryz.prog).any (Tryz.prog.mapsRec ·))) = true := by kernel_rfl
theorem optimizerDecides_j14 : ((Rows.optimizerDecidesRow.ifaces == (Tryz.f9.params.toList ++ Rows.optimizerDecidesSpec.plain.varTypes Tryz.prog).any (Tryz.prog.ifacesRec ·))) = true := by kernel_rfl
theorem optimizerDecides_j15 : ((Rows.optimizerDecidesRow.mapsOut == Tryz.prog.mapsAmong Tryz.f9.resultTypes.toList)) = true := by kernel_rfl
theorem optimizerDecides_j16 : ((Rows.optimizerDecidesRow.loops == (Tryz.f9.params.toList ++ Rows.optimizerDecidesSpec.plain.varTypes Tryz.prog).any (Tryz.prog.loopsFrom ·))) = true := by kernel_rfl
theorem optimizerDecides_j17 : ((Rows.optimizerDecidesRow.wideKeys == (Tryz.f9.params.toList ++ Rows.optimizerDecidesSpec.plain.varTypes Tryz.prog ++ Tryz.f9.resultTypes.toList).any (Tryz.prog.wideKeysFrom ·))) = true := by kernel_rfl
theorem optimizerDecides_j18 : (Rows.optimizerDecidesSpec.vars.all (Tryz.prog.varReadable ·)) = true := by kernel_rfl
theorem optimizerDecides_j19 : (Tryz.f9.resultTypes.all (fun t => Tryz.prog.readableRec t && decide (t < Tryz.prog.types.size))) = true := by kernel_rfl
theorem optimizerDecides_j20 : ((Rows.optimizerDecidesRow.ifacesOut == Tryz.f9.resultTypes.toList.any (Tryz.prog.ifacesRec ·))) = true := by kernel_rfl
theorem optimizerDecides_j21 : ((Rows.optimizerDecidesRow.loopsOut == Tryz.f9.resultTypes.toList.any (Tryz.prog.loopsFrom ·))) = true := by kernel_rfl
theorem optimizerDecides_j22 : ((Rows.optimizerDecidesRow.plainKeys == Tryz.prog.plainKeys)) = true := by kernel_rfl
theorem optimizerDecides_j23 : (Rows.optimizerDecidesRow.shortTexts.isNone) = true := by kernel_rfl
theorem optimizerDecides_j26 : ((Rows.optimizerDecidesRow.lifted == Tryz.prog.liftsFinal)) = true := by kernel_rfl
theorem optimizerDecides_j27 : ((Tryz.prog.make == some Rows.optimizerDecidesRow.make)) = true := by kernel_rfl
theorem optimizerDecides_j28 : ((Rows.optimizerDecidesRow.kinds == (if Rows.optimizerDecidesRow.domain.isEmpty then [] else Tryz.f9.params.toList.map fun t => match Tryz.prog.underlying t with | some (.int k) => some k | _ => none))) = true := by kernel_rfl
theorem optimizerDecides_j29 : ((Rows.optimizerDecidesRow.pinned == Rows.optimizerDecidesRow.pinnedBy)) = true := by kernel_rfl
theorem optimizerDecides_j30 : ((Rows.optimizerDecidesRow.veiled == (Tryz.f9.params.toList ++ Rows.optimizerDecidesSpec.plain.varTypes Tryz.prog ++ Tryz.f9.resultTypes.toList).any (Tryz.prog.veiledRec ·))) = true := by kernel_rfl
theorem optimizerDecides_j31 : (Rows.optimizerDecidesRow.veiledFits Tryz.prog Tryz.f9.params.toList (Tryz.f9.params.toList ++ Rows.optimizerDecidesSpec.plain.varTypes Tryz.prog ++ Tryz.f9.resultTypes.toList)) = true := by kernel_rfl
set_option maxRecDepth 100000 in
theorem optimizerDecides_joined : joinedFacts Tryz.pinned.checked.prog 9 Tryz.f9 Rows.optimizerDecidesSpec Rows.optimizerDecidesRow = true := (dO (dO (dO (dO (dO (dO (dO (dO (dO (dO (dO (dO (dO (dO (dO (dO (dO (dO (dO (dO (dO (dO (dO (dO (dO (dO (dO (dO (dO (dO (dO optimizerDecides_j0 laidT) jp2) optimizerDecides_j3) optimizerDecides_j4) optimizerDecides_j5) jp6) optimizerDecides_j7) jp8) optimizerDecides_j9) optimizerDecides_j10) optimizerDecides_j11) optimizerDecides_j12) optimizerDecides_j13) optimizerDecides_j14) optimizerDecides_j15) optimizerDecides_j16) optimizerDecides_j17) optimizerDecides_j18) optimizerDecides_j19) optimizerDecides_j20) optimizerDecides_j21) optimizerDecides_j22) optimizerDecides_j23) afV) afU) optimizerDecides_j26) optimizerDecides_j27) optimizerDecides_j28) optimizerDecides_j29) optimizerDecides_j30) optimizerDecides_j31)
theorem optimizerDecides_named : Tryz.pinned.checked.prog.funcNamed Rows.optimizerDecidesRow.func = some 9 := by kernel_rfl
theorem optimizerDecides_holds : Rows.OptimizerDecidesSaid :=
  OpenClaim.holds_of_wide 9 Tryz.f9 rfl rfl rfl rfl rfl rfl rfl ⟨rfl, rfl, rfl, rfl, rfl⟩ rfl rfl rfl rfl rfl optimizerDecides_named Tryz.func9 optimizerDecides_joined
    (of_decide_eq_true (by kernel_rfl)) (by unfold Func.isWrapper; rw [if_neg (of_decide_eq_false (by kernel_rfl))]; exact ⟨rfl, rfl⟩)
    (fun os started H enc _ => optimizerDecides_lifted os started H enc)

end Go.Proofs.YtdcofoaihmongaaGreat
