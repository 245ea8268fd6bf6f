/-
  BinaryDecides returns true for every input, and leaves its arguments as they were. No conditions.
-/
import Derived.Test.YtkkmjdceiocnbaaGreatDoorSTM
namespace Go.Proofs.YtkkmjdceiocnbaaGreatDoor
open Go.RowKit Go.ChangeShapes Go.WideShapes Go.ChangeAt
set_option maxRecDepth 100000 in
theorem all_bool {w : World} {f : Nat} : ∀ (es : List (List Value)), (∀ x ∈ es, x.length = Tryz.prog.cellsOf 4 ∧ Rd Tryz.prog w f 4 x) → ∃ l : List Bool, es.flatten = l.map Value.bool ∧ es.length = l.length
  | [], _ => ⟨[], rfl, rfl⟩
  | x :: es, h => by
    obtain ⟨o, rfl⟩ := (h x (by simp)).2.bool Tryz.underlying4
    obtain ⟨l, h1, h2⟩ := all_bool es fun y hy => h y (by simp [hy])
    exact ⟨o :: l, by rw [List.flatten_cons, h1]; rfl, by simp [h2]⟩
set_option maxRecDepth 100000 in
theorem bools_open {w : World} {v : Value} (h : Arg Tryz.prog w 58 v) : ∃ l : List Bool, yX w v l := by
  obtain ⟨f, cs, h, rfl⟩ := h
  rw [Tryz.underlying58]
  obtain ⟨f', v, rfl, rfl, es, h1, h2, _⟩ := h.slice Tryz.underlying58
  obtain ⟨l, e1, e2⟩ := all_bool es h2
  refine ⟨l, ?_⟩
  rw [e1, e2, show Tryz.prog.cellsOf 4 = 1 from by kernel_rfl] at h1
  exact h1
set_option maxRecDepth 100000 in
theorem ctxs_open {w : World} {v : Value} (h : Arg Tryz.prog w 66 v) : ∃ (s t : eG), v = .agg #[.int .i64 s.user, .int .i64 s.role, .int .i64 s.typ, .int .i64 s.rng.low.ak, .int .u64 s.rng.low.cats, .int .i64 s.rng.high.ak, .int .u64 s.rng.high.cats, .int .i64 t.user, .int .i64 t.role, .int .i64 t.typ, .int .i64 t.rng.low.ak, .int .u64 t.rng.low.cats, .int .i64 t.rng.high.ak, .int .u64 t.rng.high.cats] ∧ s.Ok ∧ t.Ok := by
  obtain ⟨f, cs, h, rfl⟩ := h
  rw [Tryz.underlying66]
  obtain ⟨f', rfl, es, rfl, hn, hx⟩ := h.array Tryz.underlying66
  match es, hn with
  | [e0, e1], _ =>
    obtain ⟨s, rfl, hs⟩ := fu (hx e0 (by simp)).2
    obtain ⟨t, rfl, ht⟩ := fu (hx e1 (by simp)).2
    exact ⟨s, t, rfl, hs, ht⟩

set_option maxRecDepth 100000 in
theorem binaryDecides_lifted (os : Os) (started : os.Started) (H : Type) (enc : TypeId × Value → H) :
    ReturnsInHanded {} Tryz.checked os 9 .any (fun w args => (Rows.binaryDecidesSpec.pre enc Tryz.prog Tryz.f9 [] false w args ∧ laidMetH Tryz.prog nO w) ∧ sizedMet enc Tryz.prog Tryz.f9 (OpenSpec.ofChange Rows.binaryDecidesSpec) false w args) (Rows.binaryDecidesSpec.post enc Tryz.prog Tryz.f9 false true false false) := by
  refine iq (C := Tryz.checked) (X := laidMetH Tryz.prog nO) (fun _ _ hh h => h.of_heap hh) MB uG started (by kernel_rfl) Tryz.func9 rfl 4 (by kernel_rfl) Tryz.underlying4 (by kernel_rfl) ?_
    (ChangeSpec.witness_shaped (enc := enc) (C := Tryz.checked) (os := os) (X := fun w _ => laidMetH Tryz.prog nO w) false (World.doorLaid Tryz.prog 400 os) #[.agg #[.slice none 0 0, .slice none 0 0, .slice none 0 0, .slice none 0 0, .slice none 0 0, .slice none 0 0, .slice none 0 0, .slice none 0 0, .slice none 0 0, .slice none 0 0, .slice none 0 0, .slice none 0 0, .slice none 0 0, .slice none 0 0, .slice none 0 0, .slice none 0 0, .slice none 0 0], .slice none 0 0, .agg #[.int .i64 0, .int .i64 0, .int .i64 0, .int .i64 0, .int .u64 0, .int .i64 0, .int .u64 0, .int .i64 0, .int .i64 0, .int .i64 0, .int .i64 0, .int .u64 0, .int .i64 0, .int .u64 0]] 8 rfl (World.shaped_of_RefB (by kernel_rfl) (by kernel_rfl)) (by kernel_rfl) (by kernel_rfl) (by kernel_rfl) (tg os _)) ?_
  · intro ds hd
    rw [Tryz.params9] at hd
    match ds, hd with
    | [a, b, c], _ => rfl
  · intro W args hA hL
    have hA' : Args Tryz.prog W Tryz.f9.params.toList args.toList := hA
    rw [Tryz.params9] at hA'
    obtain ⟨a, b, c, he, h1, h2, h3⟩ := Kk hA'
    obtain rfl : args = #[a, b, c] := by rw [← Array.toArray_toList (xs := args), he]
    obtain ⟨c0, c1, c2, c3, c4, c5, c6, c7, c8, c9, c10, c11, c12, c13, c14, c15, c16, p, rfl, hp, hok⟩ := nJ h1
    obtain ⟨st, hst⟩ := bools_open h2
    obtain ⟨s, t, rfl, hs, ht⟩ := ctxs_open h3
    exact Hh W c0 c1 c2 c3 c4 c5 c6 c7 c8 c9 c10 c11 c12 c13 c14 c15 c16 p hp hok b st hst s t hs ht
theorem binaryDecides_j0 : (Rows.binaryDecidesRow.wf (OpenSpec.ofChange Rows.binaryDecidesSpec)) = true := by kernel_rfl
theorem binaryDecides_j3 : (Tryz.f9.params.all (Tryz.prog.readableRec ·)) = true := by kernel_rfl
theorem binaryDecides_j4 : (namedTie Tryz.prog Rows.binaryDecidesRow.named Rows.binaryDecidesSpec.vars) = true := by kernel_rfl
theorem binaryDecides_j5 : ((Rows.binaryDecidesRow.stops == [])) = true := by kernel_rfl
theorem binaryDecides_j7 : ((Rows.binaryDecidesRow.knobs == [])) = true := by kernel_rfl
theorem binaryDecides_j9 : ((Rows.binaryDecidesRow.inPlace == Tryz.prog.inPlace 9)) = true := by kernel_rfl
theorem binaryDecides_j10 : ((Rows.binaryDecidesRow.unfollowed == Tryz.prog.unfollowed 9)) = true := by kernel_rfl
theorem binaryDecides_j11 : ((Rows.binaryDecidesRow.recurses == Tryz.prog.recurses 9)) = true := by kernel_rfl
theorem binaryDecides_j12 : ((Rows.binaryDecidesRow.named == Tryz.prog.varsNamed 9)) = true := by kernel_rfl
theorem binaryDecides_j13 : ((Rows.binaryDecidesRow.maps == (Tryz.f9.params.toList ++ Rows.binaryDecidesSpec.plain.varTypes Tryz.prog).any (Tryz.prog.mapsRec ·))) = true := by kernel_rfl
theorem binaryDecides_j14 : ((Rows.binaryDecidesRow.ifaces == (Tryz.f9.params.toList ++ Rows.binaryDecidesSpec.plain.varTypes Tryz.prog).any (Tryz.prog.ifacesRec ·))) = true := by kernel_rfl
theorem binaryDecides_j15 : ((Rows.binaryDecidesRow.mapsOut == Tryz.prog.mapsAmong Tryz.f9.resultTypes.toList)) = true := by kernel_rfl
theorem binaryDecides_j16 : ((Rows.binaryDecidesRow.loops == (Tryz.f9.params.toList ++ Rows.binaryDecidesSpec.plain.varTypes Tryz.prog).any (Tryz.prog.loopsFrom ·))) = true := by kernel_rfl
theorem binaryDecides_j17 : ((Rows.binaryDecidesRow.wideKeys == (Tryz.f9.params.toList ++ Rows.binaryDecidesSpec.plain.varTypes Tryz.prog ++ Tryz.f9.resultTypes.toList).any (Tryz.prog.wideKeysFrom ·))) = true := by kernel_rfl
theorem binaryDecides_j18 : (Rows.binaryDecidesSpec.vars.all (Tryz.prog.varReadable ·)) = true := by kernel_rfl
theorem binaryDecides_j19 : (Tryz.f9.resultTypes.all (fun t => Tryz.prog.readableRec t && decide (t < Tryz.prog.types.size))) = true := by kernel_rfl
theorem binaryDecides_j20 : ((Rows.binaryDecidesRow.ifacesOut == Tryz.f9.resultTypes.toList.any (Tryz.prog.ifacesRec ·))) = true := by kernel_rfl
theorem binaryDecides_j21 : ((Rows.binaryDecidesRow.loopsOut == Tryz.f9.resultTypes.toList.any (Tryz.prog.loopsFrom ·))) = true := by kernel_rfl
theorem binaryDecides_j22 : ((Rows.binaryDecidesRow.plainKeys == Tryz.prog.plainKeys)) = true := by kernel_rfl
theorem binaryDecides_j23 : (Rows.binaryDecidesRow.shortTexts.isNone) = true := by kernel_rfl
theorem binaryDecides_j26 : ((Rows.binaryDecidesRow.lifted == Tryz.prog.liftsFinal)) = true := by kernel_rfl
theorem binaryDecides_j27 : ((Tryz.prog.make == some Rows.binaryDecidesRow.make)) = true := by kernel_rfl
theorem binaryDecides_j28 : ((Rows.binaryDecidesRow.kinds == (if Rows.binaryDecidesRow.domain.isEmpty then [] else Tryz.f9.params.toList.map fun t => match Tryz.prog.underlying t with | some (.int k) => some k | _ => none))) = true := by kernel_rfl
theorem binaryDecides_j29 : ((Rows.binaryDecidesRow.pinned == Rows.binaryDecidesRow.pinnedBy)) = true := by kernel_rfl
theorem binaryDecides_j30 : ((Rows.binaryDecidesRow.veiled == (Tryz.f9.params.toList ++ Rows.binaryDecidesSpec.plain.varTypes Tryz.prog ++ Tryz.f9.resultTypes.toList).any (Tryz.prog.veiledRec ·))) = true := by kernel_rfl
theorem binaryDecides_j31 : (Rows.binaryDecidesRow.veiledFits Tryz.prog Tryz.f9.params.toList (Tryz.f9.params.toList ++ Rows.binaryDecidesSpec.plain.varTypes Tryz.prog ++ Tryz.f9.resultTypes.toList)) = true := by kernel_rfl
set_option maxRecDepth 100000 in
theorem binaryDecides_joined : joinedFacts Tryz.pinned.checked.prog 9 Tryz.f9 Rows.binaryDecidesSpec Rows.binaryDecidesRow = true := (aH (aH (aH (aH (aH (aH (aH (aH (aH (aH (aH (aH (aH (aH (aH (aH (aH (aH (aH (aH (aH (aH (aH (aH (aH (aH (aH (aH (aH (aH (aH binaryDecides_j0 uG) Xq) binaryDecides_j3) binaryDecides_j4) binaryDecides_j5) Xp) binaryDecides_j7) Xo) binaryDecides_j9) binaryDecides_j10) binaryDecides_j11) binaryDecides_j12) binaryDecides_j13) binaryDecides_j14) binaryDecides_j15) binaryDecides_j16) binaryDecides_j17) binaryDecides_j18) binaryDecides_j19) binaryDecides_j20) binaryDecides_j21) binaryDecides_j22) binaryDecides_j23) Nd) Nc) binaryDecides_j26) binaryDecides_j27) binaryDecides_j28) binaryDecides_j29) binaryDecides_j30) binaryDecides_j31)
theorem binaryDecides_named : Tryz.pinned.checked.prog.funcNamed Rows.binaryDecidesRow.func = some 9 := by kernel_rfl

theorem binaryDecides_row_holds : Rows.BinaryDecidesSaid :=
  OpenClaim.holds_of_wide 9 Tryz.f9 rfl rfl rfl rfl rfl rfl rfl ⟨rfl, rfl, rfl, rfl, rfl⟩ rfl rfl rfl rfl rfl binaryDecides_named Tryz.func9 binaryDecides_joined
    (of_decide_eq_true (by kernel_rfl)) (by unfold Func.isWrapper; rw [if_neg (of_decide_eq_false (by kernel_rfl))]; exact ⟨rfl, rfl⟩)
    (fun os started H enc _ => binaryDecides_lifted os started H enc)

theorem binaryDecides_k1 : Rows.binaryDecidesRow.wfByText (OpenSpec.ofChange Rows.binaryDecidesSpec) = true := by kernel_rfl
theorem binaryDecides_k2 : false = Rows.binaryDecidesRow.goesBy Tryz.prog := by kernel_rfl
theorem binaryDecides_holds : Rows.BinaryDecidesCardSaid :=
  Claim7.holds_tied_plain_at .later [] [.sentinel] true (true, "21cd7d88085a88a46529f49a80f1c1ae8c50f5ac4152a0b85a4be9318cf10102") true
    binaryDecides_row_holds (fun _ h => by cases h) binaryDecides_k1 (fun _ h => by cases h) binaryDecides_row_tie rfl ⟨rfl, rfl⟩ DE rfl
    (fun f fn hf hfn => by
      obtain rfl : f = 9 := Option.some.inj (binaryDecides_named.symm.trans hf) |>.symm
      obtain rfl : fn = Tryz.f9 := (Option.some.inj (Tryz.func9.symm.trans hfn)).symm
      exact ⟨DF, fun j t ht => by
        rw [Tryz.params9] at ht
        have hm : t ∈ [39, 58, 66] := by simpa using Array.mem_of_getElem? ht
        simp only [List.mem_cons, List.not_mem_nil, or_false] at hm
        rcases hm with rfl | rfl | rfl
        · exact EN
        · exact ab9
        · exact ab8⟩)
    binaryDecides_k2

end Go.Proofs.YtkkmjdceiocnbaaGreatDoor
