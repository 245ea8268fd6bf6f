/-
  BinaryDowngrades returns true for every input, and leaves its arguments as they were. No conditions.
-/
import Derived.Test.YtkkmjdceiocnbaaGreatDoorSXTE
namespace Go.Proofs.YtkkmjdceiocnbaaGreatDoor
open Go.RowKit Go.ChangeShapes Go.WideShapes Go.ChangeAt

set_option maxRecDepth 100000 in
theorem binaryDowngrades_lifted (os : Os) (started : os.Started) (H : Type) (enc : TypeId × Value → H) :
    ReturnsInHanded {} Tryz.checked os 10 .any (fun w args => (Rows.binaryDowngradesSpec.pre enc Tryz.prog Tryz.f10 [] false w args ∧ laidMetH Tryz.prog Hr w) ∧ sizedMet enc Tryz.prog Tryz.f10 (OpenSpec.ofChange Rows.binaryDowngradesSpec) false w args) (Rows.binaryDowngradesSpec.post enc Tryz.prog Tryz.f10 false true false false) := by
  refine vD (C := Tryz.checked) (X := laidMetH Tryz.prog Hr) (fun _ _ hh h => h.of_heap hh) Y1 QV started (by kernel_rfl) Tryz.func10 rfl 4 (by kernel_rfl) Tryz.underlying4 (by kernel_rfl) ?_
    (ChangeSpec.witness_shaped (enc := enc) (C := Tryz.checked) (os := os) (X := fun w _ => laidMetH Tryz.prog Hr w) false (World.doorLaid Tryz.prog 400 os) #[.agg #[.slice none 0 0, .slice none 0 0, .slice none 0 0, .slice none 0 0, .slice none 0 0, .slice none 0 0, .slice none 0 0, .slice none 0 0, .slice none 0 0, .slice none 0 0, .slice none 0 0, .slice none 0 0, .slice none 0 0, .slice none 0 0, .slice none 0 0, .slice none 0 0, .slice none 0 0], .int .i64 0] 8 rfl (World.shaped_of_RefB (by kernel_rfl) (by kernel_rfl)) (by kernel_rfl) (by kernel_rfl) (by kernel_rfl) (NG os _)) ?_
  · intro ds hd
    rw [Tryz.params10] at hd
    match ds, hd with
    | [a, b], _ => rfl
  · intro W args hA hL
    have hA' : Args Tryz.prog W Tryz.f10.params.toList args.toList := hA
    rw [Tryz.params10] at hA'
    obtain ⟨a, b, he, h1, h2⟩ := Ut hA'
    obtain rfl : args = #[a, b] := by rw [← Array.toArray_toList (xs := args), he]
    obtain ⟨c0, c1, c2, c3, c4, c5, c6, c7, c8, c9, c10, c11, c12, c13, c14, c15, c16, p, rfl, hp, hok⟩ := LX h1
    obtain ⟨n, rfl, hn⟩ := MF h2
    exact yK W c0 c1 c2 c3 c4 c5 c6 c7 c8 c9 c10 c11 c12 c13 c14 c15 c16 p hp hok n hn
theorem binaryDowngrades_j0 : (Rows.binaryDowngradesRow.wf (OpenSpec.ofChange Rows.binaryDowngradesSpec)) = true := by kernel_rfl
theorem binaryDowngrades_j3 : (Tryz.f10.params.all (Tryz.prog.readableRec ·)) = true := by kernel_rfl
theorem binaryDowngrades_j4 : (namedTie Tryz.prog Rows.binaryDowngradesRow.named Rows.binaryDowngradesSpec.vars) = true := by kernel_rfl
theorem binaryDowngrades_j5 : ((Rows.binaryDowngradesRow.stops == [])) = true := by kernel_rfl
theorem binaryDowngrades_j7 : ((Rows.binaryDowngradesRow.knobs == [])) = true := by kernel_rfl
theorem binaryDowngrades_j9 : ((Rows.binaryDowngradesRow.inPlace == Tryz.prog.inPlace 10)) = true := by kernel_rfl
theorem binaryDowngrades_j10 : ((Rows.binaryDowngradesRow.unfollowed == Tryz.prog.unfollowed 10)) = true := by kernel_rfl
theorem binaryDowngrades_j11 : ((Rows.binaryDowngradesRow.recurses == Tryz.prog.recurses 10)) = true := by kernel_rfl
theorem binaryDowngrades_j12 : ((Rows.binaryDowngradesRow.named == Tryz.prog.varsNamed 10)) = true := by kernel_rfl
theorem binaryDowngrades_j13 : ((Rows.binaryDowngradesRow.maps == (Tryz.f10.params.toList ++ Rows.binaryDowngradesSpec.plain.varTypes Tryz.prog).any (Tryz.prog.mapsRec ·))) = true := by kernel_rfl
theorem binaryDowngrades_j14 : ((Rows.binaryDowngradesRow.ifaces == (Tryz.f10.params.toList ++ Rows.binaryDowngradesSpec.plain.varTypes Tryz.prog).any (Tryz.prog.ifacesRec ·))) = true := by kernel_rfl
theorem binaryDowngrades_j15 : ((Rows.binaryDowngradesRow.mapsOut == Tryz.prog.mapsAmong Tryz.f10.resultTypes.toList)) = true := by kernel_rfl
theorem binaryDowngrades_j16 : ((Rows.binaryDowngradesRow.loops == (Tryz.f10.params.toList ++ Rows.binaryDowngradesSpec.plain.varTypes Tryz.prog).any (Tryz.prog.loopsFrom ·))) = true := by kernel_rfl
theorem binaryDowngrades_j17 : ((Rows.binaryDowngradesRow.wideKeys == (Tryz.f10.params.toList ++ Rows.binaryDowngradesSpec.plain.varTypes Tryz.prog ++ Tryz.f10.resultTypes.toList).any (Tryz.prog.wideKeysFrom ·))) = true := by kernel_rfl
theorem binaryDowngrades_j18 : (Rows.binaryDowngradesSpec.vars.all (Tryz.prog.varReadable ·)) = true := by kernel_rfl
theorem binaryDowngrades_j19 : (Tryz.f10.resultTypes.all (fun t => Tryz.prog.readableRec t && decide (t < Tryz.prog.types.size))) = true := by kernel_rfl
theorem binaryDowngrades_j20 : ((Rows.binaryDowngradesRow.ifacesOut == Tryz.f10.resultTypes.toList.any (Tryz.prog.ifacesRec ·))) = true := by kernel_rfl
theorem binaryDowngrades_j21 : ((Rows.binaryDowngradesRow.loopsOut == Tryz.f10.resultTypes.toList.any (Tryz.prog.loopsFrom ·))) = true := by kernel_rfl
theorem binaryDowngrades_j22 : ((Rows.binaryDowngradesRow.plainKeys == Tryz.prog.plainKeys)) = true := by kernel_rfl
theorem binaryDowngrades_j23 : (Rows.binaryDowngradesRow.shortTexts.isNone) = true := by kernel_rfl
theorem binaryDowngrades_j26 : ((Rows.binaryDowngradesRow.lifted == Tryz.prog.liftsFinal)) = true := by kernel_rfl
theorem binaryDowngrades_j27 : ((Tryz.prog.make == some Rows.binaryDowngradesRow.make)) = true := by kernel_rfl
theorem binaryDowngrades_j28 : ((Rows.binaryDowngradesRow.kinds == (if Rows.binaryDowngradesRow.domain.isEmpty then [] else Tryz.f10.params.toList.map fun t => match Tryz.prog.underlying t with | some (.int k) => some k | _ => none))) = true := by kernel_rfl
theorem binaryDowngrades_j29 : ((Rows.binaryDowngradesRow.pinned == Rows.binaryDowngradesRow.pinnedBy)) = true := by kernel_rfl
theorem binaryDowngrades_j30 : ((Rows.binaryDowngradesRow.veiled == (Tryz.f10.params.toList ++ Rows.binaryDowngradesSpec.plain.varTypes Tryz.prog ++ Tryz.f10.resultTypes.toList).any (Tryz.prog.veiledRec ·))) = true := by kernel_rfl
theorem binaryDowngrades_j31 : (Rows.binaryDowngradesRow.veiledFits Tryz.prog Tryz.f10.params.toList (Tryz.f10.params.toList ++ Rows.binaryDowngradesSpec.plain.varTypes Tryz.prog ++ Tryz.f10.resultTypes.toList)) = true := by kernel_rfl
set_option maxRecDepth 100000 in
theorem binaryDowngrades_joined : joinedFacts Tryz.pinned.checked.prog 10 Tryz.f10 Rows.binaryDowngradesSpec Rows.binaryDowngradesRow = true := (dP (dP (dP (dP (dP (dP (dP (dP (dP (dP (dP (dP (dP (dP (dP (dP (dP (dP (dP (dP (dP (dP (dP (dP (dP (dP (dP (dP (dP (dP (dP binaryDowngrades_j0 QV) jp2) binaryDowngrades_j3) binaryDowngrades_j4) binaryDowngrades_j5) jp6) binaryDowngrades_j7) jp8) binaryDowngrades_j9) binaryDowngrades_j10) binaryDowngrades_j11) binaryDowngrades_j12) binaryDowngrades_j13) binaryDowngrades_j14) binaryDowngrades_j15) binaryDowngrades_j16) binaryDowngrades_j17) binaryDowngrades_j18) binaryDowngrades_j19) binaryDowngrades_j20) binaryDowngrades_j21) binaryDowngrades_j22) binaryDowngrades_j23) ZF) ZE) binaryDowngrades_j26) binaryDowngrades_j27) binaryDowngrades_j28) binaryDowngrades_j29) binaryDowngrades_j30) binaryDowngrades_j31)
theorem binaryDowngrades_named : Tryz.pinned.checked.prog.funcNamed Rows.binaryDowngradesRow.func = some 10 := by kernel_rfl

theorem binaryDowngrades_row_holds : Rows.BinaryDowngradesSaid :=
  OpenClaim.holds_of_wide 10 Tryz.f10 rfl rfl rfl rfl rfl rfl rfl ⟨rfl, rfl, rfl, rfl, rfl⟩ rfl rfl rfl rfl rfl binaryDowngrades_named Tryz.func10 binaryDowngrades_joined
    (of_decide_eq_true (by kernel_rfl)) (by unfold Func.isWrapper; rw [if_neg (of_decide_eq_false (by kernel_rfl))]; exact ⟨rfl, rfl⟩)
    (fun os started H enc _ => binaryDowngrades_lifted os started H enc)

theorem binaryDowngrades_k1 : Rows.binaryDowngradesRow.wfByText (OpenSpec.ofChange Rows.binaryDowngradesSpec) = true := by kernel_rfl
theorem binaryDowngrades_k2 : false = Rows.binaryDowngradesRow.goesBy Tryz.prog := by kernel_rfl
theorem binaryDowngrades_holds : Rows.BinaryDowngradesCardSaid :=
  Claim7.holds_tied_plain_at .later [] [.sentinel] true (true, "21cd7d88085a88a46529f49a80f1c1ae8c50f5ac4152a0b85a4be9318cf10102") true
    binaryDowngrades_row_holds (fun _ h => by cases h) binaryDowngrades_k1 (fun _ h => by cases h) binaryDowngrades_row_tie rfl ⟨rfl, rfl⟩ Wh rfl
    (fun f fn hf hfn => by
      obtain rfl : f = 10 := Option.some.inj (binaryDowngrades_named.symm.trans hf) |>.symm
      obtain rfl : fn = Tryz.f10 := (Option.some.inj (Tryz.func10.symm.trans hfn)).symm
      exact ⟨Wi, fun j t ht => by
        rw [Tryz.params10] at ht
        have hm : t ∈ [39, 3] := by simpa using Array.mem_of_getElem? ht
        simp only [List.mem_cons, List.not_mem_nil, or_false] at hm
        rcases hm with rfl | rfl
        · exact ZC
        · exact jw3⟩)
    binaryDowngrades_k2

end Go.Proofs.YtkkmjdceiocnbaaGreatDoor
