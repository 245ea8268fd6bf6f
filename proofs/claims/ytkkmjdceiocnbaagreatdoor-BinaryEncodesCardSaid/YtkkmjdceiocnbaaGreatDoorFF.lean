/-
  BinaryEncodes returns true for every input, and leaves its arguments as they were. No conditions.
-/
import Derived.Test.YtkkmjdceiocnbaaGreatDoorSTJ
namespace Go.Proofs.YtkkmjdceiocnbaaGreatDoor
open Go.RowKit Go.ChangeShapes Go.WideShapes Go.ChangeAt

set_option maxRecDepth 100000 in
theorem binaryEncodes_lifted (os : Os) (started : os.Started) (H : Type) (enc : TypeId × Value → H) :
    ReturnsInHanded {} Tryz.checked os 3 .any (fun w args => (Rows.binaryEncodesSpec.pre enc Tryz.prog Tryz.f3 [] false w args ∧ laidMetH Tryz.prog nO w) ∧ sizedMet enc Tryz.prog Tryz.f3 (OpenSpec.ofChange Rows.binaryEncodesSpec) false w args) (Rows.binaryEncodesSpec.post enc Tryz.prog Tryz.f3 false true false false) := by
  refine iq (C := Tryz.checked) (X := laidMetH Tryz.prog nO) (fun _ _ hh h => h.of_heap hh) MB uG started (by kernel_rfl) Tryz.func3 rfl 4 (by kernel_rfl) Tryz.underlying4 (by kernel_rfl) ?_
    (ChangeSpec.witness_shaped (enc := enc) (C := Tryz.checked) (os := os) (X := fun w _ => laidMetH Tryz.prog nO w) false (World.doorLaid Tryz.prog 400 os) #[.agg #[.slice none 0 0, .slice none 0 0, .slice none 0 0, .slice none 0 0, .slice none 0 0, .slice none 0 0, .slice none 0 0, .slice none 0 0, .slice none 0 0, .slice none 0 0, .slice none 0 0, .slice none 0 0, .slice none 0 0, .slice none 0 0, .slice none 0 0, .slice none 0 0, .slice none 0 0], .int .i64 0] 8 rfl (World.shaped_of_RefB (by kernel_rfl) (by kernel_rfl)) (by kernel_rfl) (by kernel_rfl) (by kernel_rfl) (tg os _)) ?_
  · intro ds hd
    rw [Tryz.params3] at hd
    match ds, hd with
    | [a, b], _ => rfl
  · intro W args hA hL
    have hA' : Args Tryz.prog W Tryz.f3.params.toList args.toList := hA
    rw [Tryz.params3] at hA'
    obtain ⟨a, b, he, h1, h2⟩ := Kl hA'
    obtain rfl : args = #[a, b] := by rw [← Array.toArray_toList (xs := args), he]
    obtain ⟨c0, c1, c2, c3, c4, c5, c6, c7, c8, c9, c10, c11, c12, c13, c14, c15, c16, p, rfl, hp, hok⟩ := nJ h1
    obtain ⟨n, rfl, hn⟩ := B0 h2
    exact G9 W c0 c1 c2 c3 c4 c5 c6 c7 c8 c9 c10 c11 c12 c13 c14 c15 c16 p hp hok n hn
theorem binaryEncodes_j0 : (Rows.binaryEncodesRow.wf (OpenSpec.ofChange Rows.binaryEncodesSpec)) = true := by kernel_rfl
theorem binaryEncodes_j3 : (Tryz.f3.params.all (Tryz.prog.readableRec ·)) = true := by kernel_rfl
theorem binaryEncodes_j4 : (namedTie Tryz.prog Rows.binaryEncodesRow.named Rows.binaryEncodesSpec.vars) = true := by kernel_rfl
theorem binaryEncodes_j5 : ((Rows.binaryEncodesRow.stops == [])) = true := by kernel_rfl
theorem binaryEncodes_j7 : ((Rows.binaryEncodesRow.knobs == [])) = true := by kernel_rfl
theorem binaryEncodes_j9 : ((Rows.binaryEncodesRow.inPlace == Tryz.prog.inPlace 3)) = true := by kernel_rfl
theorem binaryEncodes_j10 : ((Rows.binaryEncodesRow.unfollowed == Tryz.prog.unfollowed 3)) = true := by kernel_rfl
theorem binaryEncodes_j11 : ((Rows.binaryEncodesRow.recurses == Tryz.prog.recurses 3)) = true := by kernel_rfl
theorem binaryEncodes_j12 : ((Rows.binaryEncodesRow.named == Tryz.prog.varsNamed 3)) = true := by kernel_rfl
theorem binaryEncodes_j13 : ((Rows.binaryEncodesRow.maps == (Tryz.f3.params.toList ++ Rows.binaryEncodesSpec.plain.varTypes Tryz.prog).any (Tryz.prog.mapsRec ·))) = true := by kernel_rfl
theorem binaryEncodes_j14 : ((Rows.binaryEncodesRow.ifaces == (Tryz.f3.params.toList ++ Rows.binaryEncodesSpec.plain.varTypes Tryz.prog).any (Tryz.prog.ifacesRec ·))) = true := by kernel_rfl
theorem binaryEncodes_j15 : ((Rows.binaryEncodesRow.mapsOut == Tryz.prog.mapsAmong Tryz.f3.resultTypes.toList)) = true := by kernel_rfl
theorem binaryEncodes_j16 : ((Rows.binaryEncodesRow.loops == (Tryz.f3.params.toList ++ Rows.binaryEncodesSpec.plain.varTypes Tryz.prog).any (Tryz.prog.loopsFrom ·))) = true := by kernel_rfl
theorem binaryEncodes_j17 : ((Rows.binaryEncodesRow.wideKeys == (Tryz.f3.params.toList ++ Rows.binaryEncodesSpec.plain.varTypes Tryz.prog ++ Tryz.f3.resultTypes.toList).any (Tryz.prog.wideKeysFrom ·))) = true := by kernel_rfl
theorem binaryEncodes_j18 : (Rows.binaryEncodesSpec.vars.all (Tryz.prog.varReadable ·)) = true := by kernel_rfl
theorem binaryEncodes_j19 : (Tryz.f3.resultTypes.all (fun t => Tryz.prog.readableRec t && decide (t < Tryz.prog.types.size))) = true := by kernel_rfl
theorem binaryEncodes_j20 : ((Rows.binaryEncodesRow.ifacesOut == Tryz.f3.resultTypes.toList.any (Tryz.prog.ifacesRec ·))) = true := by kernel_rfl
theorem binaryEncodes_j21 : ((Rows.binaryEncodesRow.loopsOut == Tryz.f3.resultTypes.toList.any (Tryz.prog.loopsFrom ·))) = true := by kernel_rfl
theorem binaryEncodes_j22 : ((Rows.binaryEncodesRow.plainKeys == Tryz.prog.plainKeys)) = true := by kernel_rfl
theorem binaryEncodes_j23 : (Rows.binaryEncodesRow.shortTexts.isNone) = true := by kernel_rfl
theorem binaryEncodes_j26 : ((Rows.binaryEncodesRow.lifted == Tryz.prog.liftsFinal)) = true := by kernel_rfl
theorem binaryEncodes_j27 : ((Tryz.prog.make == some Rows.binaryEncodesRow.make)) = true := by kernel_rfl
theorem binaryEncodes_j28 : ((Rows.binaryEncodesRow.kinds == (if Rows.binaryEncodesRow.domain.isEmpty then [] else Tryz.f3.params.toList.map fun t => match Tryz.prog.underlying t with | some (.int k) => some k | _ => none))) = true := by kernel_rfl
theorem binaryEncodes_j29 : ((Rows.binaryEncodesRow.pinned == Rows.binaryEncodesRow.pinnedBy)) = true := by kernel_rfl
theorem binaryEncodes_j30 : ((Rows.binaryEncodesRow.veiled == (Tryz.f3.params.toList ++ Rows.binaryEncodesSpec.plain.varTypes Tryz.prog ++ Tryz.f3.resultTypes.toList).any (Tryz.prog.veiledRec ·))) = true := by kernel_rfl
theorem binaryEncodes_j31 : (Rows.binaryEncodesRow.veiledFits Tryz.prog Tryz.f3.params.toList (Tryz.f3.params.toList ++ Rows.binaryEncodesSpec.plain.varTypes Tryz.prog ++ Tryz.f3.resultTypes.toList)) = true := by kernel_rfl
set_option maxRecDepth 100000 in
theorem binaryEncodes_joined : joinedFacts Tryz.pinned.checked.prog 3 Tryz.f3 Rows.binaryEncodesSpec Rows.binaryEncodesRow = true := (aH (aH (aH (aH (aH (aH (aH (aH (aH (aH (aH (aH (aH (aH (aH (aH (aH (aH (aH (aH (aH (aH (aH (aH (aH (aH (aH (aH (aH (aH (aH binaryEncodes_j0 uG) Xq) binaryEncodes_j3) binaryEncodes_j4) binaryEncodes_j5) Xp) binaryEncodes_j7) Xo) binaryEncodes_j9) binaryEncodes_j10) binaryEncodes_j11) binaryEncodes_j12) binaryEncodes_j13) binaryEncodes_j14) binaryEncodes_j15) binaryEncodes_j16) binaryEncodes_j17) binaryEncodes_j18) binaryEncodes_j19) binaryEncodes_j20) binaryEncodes_j21) binaryEncodes_j22) binaryEncodes_j23) Nd) Nc) binaryEncodes_j26) binaryEncodes_j27) binaryEncodes_j28) binaryEncodes_j29) binaryEncodes_j30) binaryEncodes_j31)
theorem binaryEncodes_named : Tryz.pinned.checked.prog.funcNamed Rows.binaryEncodesRow.func = some 3 := by kernel_rfl

theorem binaryEncodes_row_holds : Rows.BinaryEncodesSaid :=
  OpenClaim.holds_of_wide 3 Tryz.f3 rfl rfl rfl rfl rfl rfl rfl ⟨rfl, rfl, rfl, rfl, rfl⟩ rfl rfl rfl rfl rfl binaryEncodes_named Tryz.func3 binaryEncodes_joined
    (of_decide_eq_true (by kernel_rfl)) (by unfold Func.isWrapper; rw [if_neg (of_decide_eq_false (by kernel_rfl))]; exact ⟨rfl, rfl⟩)
    (fun os started H enc _ => binaryEncodes_lifted os started H enc)

theorem binaryEncodes_k1 : Rows.binaryEncodesRow.wfByText (OpenSpec.ofChange Rows.binaryEncodesSpec) = true := by kernel_rfl
theorem binaryEncodes_k2 : false = Rows.binaryEncodesRow.goesBy Tryz.prog := by kernel_rfl
theorem binaryEncodes_holds : Rows.BinaryEncodesCardSaid :=
  Claim7.holds_tied_plain_at .later [] [.sentinel] true (true, "21cd7d88085a88a46529f49a80f1c1ae8c50f5ac4152a0b85a4be9318cf10102") true
    binaryEncodes_row_holds (fun _ h => by cases h) binaryEncodes_k1 (fun _ h => by cases h) binaryEncodes_row_tie rfl ⟨rfl, rfl⟩ DE rfl
    (fun f fn hf hfn => by
      obtain rfl : f = 3 := Option.some.inj (binaryEncodes_named.symm.trans hf) |>.symm
      obtain rfl : fn = Tryz.f3 := (Option.some.inj (Tryz.func3.symm.trans hfn)).symm
      exact ⟨DF, fun j t ht => by
        rw [Tryz.params3] at ht
        have hm : t ∈ [39, 3] := by simpa using Array.mem_of_getElem? ht
        simp only [List.mem_cons, List.not_mem_nil, or_false] at hm
        rcases hm with rfl | rfl
        · exact EN
        · exact jw3⟩)
    binaryEncodes_k2

end Go.Proofs.YtkkmjdceiocnbaaGreatDoor
