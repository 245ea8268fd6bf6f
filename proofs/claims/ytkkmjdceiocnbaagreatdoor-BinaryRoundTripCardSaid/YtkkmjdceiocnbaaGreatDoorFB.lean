/-
  BinaryRoundTrip returns true for every input, and leaves its arguments as they were. No conditions.
-/
import Derived.Test.YtkkmjdceiocnbaaGreatDoorSTD
namespace Go.Proofs.YtkkmjdceiocnbaaGreatDoor
open Go.RowKit Go.ChangeShapes Go.WideShapes Go.ChangeAt

set_option maxRecDepth 100000 in
theorem binaryRoundTrip_lifted (os : Os) (started : os.Started) (H : Type) (enc : TypeId × Value → H) :
    ReturnsInHanded {} Tryz.checked os 5 .any (fun w args => (Rows.binaryRoundTripSpec.pre enc Tryz.prog Tryz.f5 [] false w args ∧ laidMetH Tryz.prog nO w) ∧ sizedMet enc Tryz.prog Tryz.f5 (OpenSpec.ofChange Rows.binaryRoundTripSpec) false w args) (Rows.binaryRoundTripSpec.post enc Tryz.prog Tryz.f5 false true false false) := by
  refine iq (C := Tryz.checked) (X := laidMetH Tryz.prog nO) (fun _ _ hh h => h.of_heap hh) MB uG started (by kernel_rfl) Tryz.func5 rfl 4 (by kernel_rfl) Tryz.underlying4 (by kernel_rfl) ?_
    (ChangeSpec.witness_shaped (enc := enc) (C := Tryz.checked) (os := os) (X := fun w _ => laidMetH Tryz.prog nO w) false (World.doorLaid Tryz.prog 400 os) #[.agg #[.slice none 0 0, .slice none 0 0, .slice none 0 0, .slice none 0 0, .slice none 0 0, .slice none 0 0, .slice none 0 0, .slice none 0 0, .slice none 0 0, .slice none 0 0, .slice none 0 0, .slice none 0 0, .slice none 0 0, .slice none 0 0, .slice none 0 0, .slice none 0 0, .slice none 0 0], .int .i64 0] 8 rfl (World.shaped_of_RefB (by kernel_rfl) (by kernel_rfl)) (by kernel_rfl) (by kernel_rfl) (by kernel_rfl) (tg os _)) ?_
  · intro ds hd
    rw [Tryz.params5] at hd
    match ds, hd with
    | [a, b], _ => rfl
  · intro W args hA hL
    have hA' : Args Tryz.prog W Tryz.f5.params.toList args.toList := hA
    rw [Tryz.params5] at hA'
    obtain ⟨a, b, he, h1, h2⟩ := Kl hA'
    obtain rfl : args = #[a, b] := by rw [← Array.toArray_toList (xs := args), he]
    obtain ⟨c0, c1, c2, c3, c4, c5, c6, c7, c8, c9, c10, c11, c12, c13, c14, c15, c16, p, rfl, hp, hok⟩ := nJ h1
    obtain ⟨n, rfl, hn⟩ := B0 h2
    exact CU W c0 c1 c2 c3 c4 c5 c6 c7 c8 c9 c10 c11 c12 c13 c14 c15 c16 p hp hok n hn
theorem binaryRoundTrip_j0 : (Rows.binaryRoundTripRow.wf (OpenSpec.ofChange Rows.binaryRoundTripSpec)) = true := by kernel_rfl
theorem binaryRoundTrip_j3 : (Tryz.f5.params.all (Tryz.prog.readableRec ·)) = true := by kernel_rfl
theorem binaryRoundTrip_j4 : (namedTie Tryz.prog Rows.binaryRoundTripRow.named Rows.binaryRoundTripSpec.vars) = true := by kernel_rfl
theorem binaryRoundTrip_j5 : ((Rows.binaryRoundTripRow.stops == [])) = true := by kernel_rfl
theorem binaryRoundTrip_j7 : ((Rows.binaryRoundTripRow.knobs == [])) = true := by kernel_rfl
theorem binaryRoundTrip_j9 : ((Rows.binaryRoundTripRow.inPlace == Tryz.prog.inPlace 5)) = true := by kernel_rfl
theorem binaryRoundTrip_j10 : ((Rows.binaryRoundTripRow.unfollowed == Tryz.prog.unfollowed 5)) = true := by kernel_rfl
theorem binaryRoundTrip_j11 : ((Rows.binaryRoundTripRow.recurses == Tryz.prog.recurses 5)) = true := by kernel_rfl
theorem binaryRoundTrip_j12 : ((Rows.binaryRoundTripRow.named == Tryz.prog.varsNamed 5)) = true := by kernel_rfl
theorem binaryRoundTrip_j13 : ((Rows.binaryRoundTripRow.maps == (Tryz.f5.params.toList ++ Rows.binaryRoundTripSpec.plain.varTypes Tryz.prog).any (Tryz.prog.mapsRec ·))) = true := by kernel_rfl
theorem binaryRoundTrip_j14 : ((Rows.binaryRoundTripRow.ifaces == (Tryz.f5.params.toList ++ Rows.binaryRoundTripSpec.plain.varTypes Tryz.prog).any (Tryz.prog.ifacesRec ·))) = true := by kernel_rfl
theorem binaryRoundTrip_j15 : ((Rows.binaryRoundTripRow.mapsOut == Tryz.prog.mapsAmong Tryz.f5.resultTypes.toList)) = true := by kernel_rfl
theorem binaryRoundTrip_j16 : ((Rows.binaryRoundTripRow.loops == (Tryz.f5.params.toList ++ Rows.binaryRoundTripSpec.plain.varTypes Tryz.prog).any (Tryz.prog.loopsFrom ·))) = true := by kernel_rfl
theorem binaryRoundTrip_j17 : ((Rows.binaryRoundTripRow.wideKeys == (Tryz.f5.params.toList ++ Rows.binaryRoundTripSpec.plain.varTypes Tryz.prog ++ Tryz.f5.resultTypes.toList).any (Tryz.prog.wideKeysFrom ·))) = true := by kernel_rfl
theorem binaryRoundTrip_j18 : (Rows.binaryRoundTripSpec.vars.all (Tryz.prog.varReadable ·)) = true := by kernel_rfl
theorem binaryRoundTrip_j19 : (Tryz.f5.resultTypes.all (fun t => Tryz.prog.readableRec t && decide (t < Tryz.prog.types.size))) = true := by kernel_rfl
theorem binaryRoundTrip_j20 : ((Rows.binaryRoundTripRow.ifacesOut == Tryz.f5.resultTypes.toList.any (Tryz.prog.ifacesRec ·))) = true := by kernel_rfl
theorem binaryRoundTrip_j21 : ((Rows.binaryRoundTripRow.loopsOut == Tryz.f5.resultTypes.toList.any (Tryz.prog.loopsFrom ·))) = true := by kernel_rfl
theorem binaryRoundTrip_j22 : ((Rows.binaryRoundTripRow.plainKeys == Tryz.prog.plainKeys)) = true := by kernel_rfl
theorem binaryRoundTrip_j23 : (Rows.binaryRoundTripRow.shortTexts.isNone) = true := by kernel_rfl
theorem binaryRoundTrip_j26 : ((Rows.binaryRoundTripRow.lifted == Tryz.prog.liftsFinal)) = true := by kernel_rfl
theorem binaryRoundTrip_j27 : ((Tryz.prog.make == some Rows.binaryRoundTripRow.make)) = true := by kernel_rfl
theorem binaryRoundTrip_j28 : ((Rows.binaryRoundTripRow.kinds == (if Rows.binaryRoundTripRow.domain.isEmpty then [] else Tryz.f5.params.toList.map fun t => match Tryz.prog.underlying t with | some (.int k) => some k | _ => none))) = true := by kernel_rfl
theorem binaryRoundTrip_j29 : ((Rows.binaryRoundTripRow.pinned == Rows.binaryRoundTripRow.pinnedBy)) = true := by kernel_rfl
theorem binaryRoundTrip_j30 : ((Rows.binaryRoundTripRow.veiled == (Tryz.f5.params.toList ++ Rows.binaryRoundTripSpec.plain.varTypes Tryz.prog ++ Tryz.f5.resultTypes.toList).any (Tryz.prog.veiledRec ·))) = true := by kernel_rfl
theorem binaryRoundTrip_j31 : (Rows.binaryRoundTripRow.veiledFits Tryz.prog Tryz.f5.params.toList (Tryz.f5.params.toList ++ Rows.binaryRoundTripSpec.plain.varTypes Tryz.prog ++ Tryz.f5.resultTypes.toList)) = true := by kernel_rfl
set_option maxRecDepth 100000 in
theorem binaryRoundTrip_joined : joinedFacts Tryz.pinned.checked.prog 5 Tryz.f5 Rows.binaryRoundTripSpec Rows.binaryRoundTripRow = true := (aH (aH (aH (aH (aH (aH (aH (aH (aH (aH (aH (aH (aH (aH (aH (aH (aH (aH (aH (aH (aH (aH (aH (aH (aH (aH (aH (aH (aH (aH (aH binaryRoundTrip_j0 uG) Xq) binaryRoundTrip_j3) binaryRoundTrip_j4) binaryRoundTrip_j5) Xp) binaryRoundTrip_j7) Xo) binaryRoundTrip_j9) binaryRoundTrip_j10) binaryRoundTrip_j11) binaryRoundTrip_j12) binaryRoundTrip_j13) binaryRoundTrip_j14) binaryRoundTrip_j15) binaryRoundTrip_j16) binaryRoundTrip_j17) binaryRoundTrip_j18) binaryRoundTrip_j19) binaryRoundTrip_j20) binaryRoundTrip_j21) binaryRoundTrip_j22) binaryRoundTrip_j23) Nd) Nc) binaryRoundTrip_j26) binaryRoundTrip_j27) binaryRoundTrip_j28) binaryRoundTrip_j29) binaryRoundTrip_j30) binaryRoundTrip_j31)
theorem binaryRoundTrip_named : Tryz.pinned.checked.prog.funcNamed Rows.binaryRoundTripRow.func = some 5 := by kernel_rfl

theorem binaryRoundTrip_row_holds : Rows.BinaryRoundTripSaid :=
  OpenClaim.holds_of_wide 5 Tryz.f5 rfl rfl rfl rfl rfl rfl rfl ⟨rfl, rfl, rfl, rfl, rfl⟩ rfl rfl rfl rfl rfl binaryRoundTrip_named Tryz.func5 binaryRoundTrip_joined
    (of_decide_eq_true (by kernel_rfl)) (by unfold Func.isWrapper; rw [if_neg (of_decide_eq_false (by kernel_rfl))]; exact ⟨rfl, rfl⟩)
    (fun os started H enc _ => binaryRoundTrip_lifted os started H enc)

theorem binaryRoundTrip_k1 : Rows.binaryRoundTripRow.wfByText (OpenSpec.ofChange Rows.binaryRoundTripSpec) = true := by kernel_rfl
theorem binaryRoundTrip_k2 : false = Rows.binaryRoundTripRow.goesBy Tryz.prog := by kernel_rfl
theorem binaryRoundTrip_holds : Rows.BinaryRoundTripCardSaid :=
  Claim7.holds_tied_plain_at .later [] [.sentinel] true (true, "21cd7d88085a88a46529f49a80f1c1ae8c50f5ac4152a0b85a4be9318cf10102") true
    binaryRoundTrip_row_holds (fun _ h => by cases h) binaryRoundTrip_k1 (fun _ h => by cases h) binaryRoundTrip_row_tie rfl ⟨rfl, rfl⟩ DE rfl
    (fun f fn hf hfn => by
      obtain rfl : f = 5 := Option.some.inj (binaryRoundTrip_named.symm.trans hf) |>.symm
      obtain rfl : fn = Tryz.f5 := (Option.some.inj (Tryz.func5.symm.trans hfn)).symm
      exact ⟨DF, fun j t ht => by
        rw [Tryz.params5] at ht
        have hm : t ∈ [39, 3] := by simpa using Array.mem_of_getElem? ht
        simp only [List.mem_cons, List.not_mem_nil, or_false] at hm
        rcases hm with rfl | rfl
        · exact EN
        · exact jw3⟩)
    binaryRoundTrip_k2

end Go.Proofs.YtkkmjdceiocnbaaGreatDoor
