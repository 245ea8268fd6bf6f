/-
  BinaryVersions returns true for every input, and leaves its argument as it was. No conditions.
-/
import Derived.Test.YtkkmjdceiocnbaaGreatDoorSTG
namespace Go.Proofs.YtkkmjdceiocnbaaGreatDoor
open Go.RowKit Go.ChangeShapes Go.WideShapes Go.ChangeAt

set_option maxRecDepth 100000 in
theorem binaryVersions_lifted (os : Os) (started : os.Started) (H : Type) (enc : TypeId × Value → H) :
    ReturnsInHanded {} Tryz.checked os 7 .any (fun w args => (Rows.binaryVersionsSpec.pre enc Tryz.prog Tryz.f7 [] false w args ∧ laidMetH Tryz.prog nO w) ∧ sizedMet enc Tryz.prog Tryz.f7 (OpenSpec.ofChange Rows.binaryVersionsSpec) false w args) (Rows.binaryVersionsSpec.post enc Tryz.prog Tryz.f7 false true false false) := by
  refine iq (C := Tryz.checked) (X := laidMetH Tryz.prog nO) (fun _ _ hh h => h.of_heap hh) MB uG started (by kernel_rfl) Tryz.func7 rfl 4 (by kernel_rfl) Tryz.underlying4 (by kernel_rfl) ?_
    (ChangeSpec.witness_shaped (enc := enc) (C := Tryz.checked) (os := os) (X := fun w _ => laidMetH Tryz.prog nO w) false (World.doorLaid Tryz.prog 400 os) #[.agg #[.slice none 0 0, .slice none 0 0, .slice none 0 0, .slice none 0 0, .slice none 0 0, .slice none 0 0, .slice none 0 0, .slice none 0 0, .slice none 0 0, .slice none 0 0, .slice none 0 0, .slice none 0 0, .slice none 0 0, .slice none 0 0, .slice none 0 0, .slice none 0 0, .slice none 0 0]] 8 rfl (World.shaped_of_RefB (by kernel_rfl) (by kernel_rfl)) (by kernel_rfl) (by kernel_rfl) (by kernel_rfl) (tg os _)) ?_
  · intro ds hd
    rw [Tryz.params7] at hd
    match ds, hd with
    | [a], _ => rfl
  · intro W args hA hL
    have hA' : Args Tryz.prog W Tryz.f7.params.toList args.toList := hA
    rw [Tryz.params7] at hA'
    obtain ⟨a, he, h1⟩ := Km hA'
    obtain rfl : args = #[a] := by rw [← Array.toArray_toList (xs := args), he]
    obtain ⟨c0, c1, c2, c3, c4, c5, c6, c7, c8, c9, c10, c11, c12, c13, c14, c15, c16, p, rfl, hp, hok⟩ := nJ h1
    exact D_ W c0 c1 c2 c3 c4 c5 c6 c7 c8 c9 c10 c11 c12 c13 c14 c15 c16 p hp hok
theorem binaryVersions_j0 : (Rows.binaryVersionsRow.wf (OpenSpec.ofChange Rows.binaryVersionsSpec)) = true := by kernel_rfl
theorem binaryVersions_j3 : (Tryz.f7.params.all (Tryz.prog.readableRec ·)) = true := by kernel_rfl
theorem binaryVersions_j4 : (namedTie Tryz.prog Rows.binaryVersionsRow.named Rows.binaryVersionsSpec.vars) = true := by kernel_rfl
theorem binaryVersions_j5 : ((Rows.binaryVersionsRow.stops == [])) = true := by kernel_rfl
theorem binaryVersions_j7 : ((Rows.binaryVersionsRow.knobs == [])) = true := by kernel_rfl
theorem binaryVersions_j9 : ((Rows.binaryVersionsRow.inPlace == Tryz.prog.inPlace 7)) = true := by kernel_rfl
theorem binaryVersions_j10 : ((Rows.binaryVersionsRow.unfollowed == Tryz.prog.unfollowed 7)) = true := by kernel_rfl
theorem binaryVersions_j11 : ((Rows.binaryVersionsRow.recurses == Tryz.prog.recurses 7)) = true := by kernel_rfl
theorem binaryVersions_j12 : ((Rows.binaryVersionsRow.named == Tryz.prog.varsNamed 7)) = true := by kernel_rfl
theorem binaryVersions_j13 : ((Rows.binaryVersionsRow.maps == (Tryz.f7.params.toList ++ Rows.binaryVersionsSpec.plain.varTypes Tryz.prog).any (Tryz.prog.mapsRec ·))) = true := by kernel_rfl
theorem binaryVersions_j14 : ((Rows.binaryVersionsRow.ifaces == (Tryz.f7.params.toList ++ Rows.binaryVersionsSpec.plain.varTypes Tryz.prog).any (Tryz.prog.ifacesRec ·))) = true := by kernel_rfl
theorem binaryVersions_j15 : ((Rows.binaryVersionsRow.mapsOut == Tryz.prog.mapsAmong Tryz.f7.resultTypes.toList)) = true := by kernel_rfl
theorem binaryVersions_j16 : ((Rows.binaryVersionsRow.loops == (Tryz.f7.params.toList ++ Rows.binaryVersionsSpec.plain.varTypes Tryz.prog).any (Tryz.prog.loopsFrom ·))) = true := by kernel_rfl
theorem binaryVersions_j17 : ((Rows.binaryVersionsRow.wideKeys == (Tryz.f7.params.toList ++ Rows.binaryVersionsSpec.plain.varTypes Tryz.prog ++ Tryz.f7.resultTypes.toList).any (Tryz.prog.wideKeysFrom ·))) = true := by kernel_rfl
theorem binaryVersions_j18 : (Rows.binaryVersionsSpec.vars.all (Tryz.prog.varReadable ·)) = true := by kernel_rfl
theorem binaryVersions_j19 : (Tryz.f7.resultTypes.all (fun t => Tryz.prog.readableRec t && decide (t < Tryz.prog.types.size))) = true := by kernel_rfl
theorem binaryVersions_j20 : ((Rows.binaryVersionsRow.ifacesOut == Tryz.f7.resultTypes.toList.any (Tryz.prog.ifacesRec ·))) = true := by kernel_rfl
theorem binaryVersions_j21 : ((Rows.binaryVersionsRow.loopsOut == Tryz.f7.resultTypes.toList.any (Tryz.prog.loopsFrom ·))) = true := by kernel_rfl
theorem binaryVersions_j22 : ((Rows.binaryVersionsRow.plainKeys == Tryz.prog.plainKeys)) = true := by kernel_rfl
theorem binaryVersions_j23 : (Rows.binaryVersionsRow.shortTexts.isNone) = true := by kernel_rfl
theorem binaryVersions_j26 : ((Rows.binaryVersionsRow.lifted == Tryz.prog.liftsFinal)) = true := by kernel_rfl
theorem binaryVersions_j27 : ((Tryz.prog.make == some Rows.binaryVersionsRow.make)) = true := by kernel_rfl
theorem binaryVersions_j28 : ((Rows.binaryVersionsRow.kinds == (if Rows.binaryVersionsRow.domain.isEmpty then [] else Tryz.f7.params.toList.map fun t => match Tryz.prog.underlying t with | some (.int k) => some k | _ => none))) = true := by kernel_rfl
theorem binaryVersions_j29 : ((Rows.binaryVersionsRow.pinned == Rows.binaryVersionsRow.pinnedBy)) = true := by kernel_rfl
theorem binaryVersions_j30 : ((Rows.binaryVersionsRow.veiled == (Tryz.f7.params.toList ++ Rows.binaryVersionsSpec.plain.varTypes Tryz.prog ++ Tryz.f7.resultTypes.toList).any (Tryz.prog.veiledRec ·))) = true := by kernel_rfl
theorem binaryVersions_j31 : (Rows.binaryVersionsRow.veiledFits Tryz.prog Tryz.f7.params.toList (Tryz.f7.params.toList ++ Rows.binaryVersionsSpec.plain.varTypes Tryz.prog ++ Tryz.f7.resultTypes.toList)) = true := by kernel_rfl
set_option maxRecDepth 100000 in
theorem binaryVersions_joined : joinedFacts Tryz.pinned.checked.prog 7 Tryz.f7 Rows.binaryVersionsSpec Rows.binaryVersionsRow = true := (aH (aH (aH (aH (aH (aH (aH (aH (aH (aH (aH (aH (aH (aH (aH (aH (aH (aH (aH (aH (aH (aH (aH (aH (aH (aH (aH (aH (aH (aH (aH binaryVersions_j0 uG) Xq) binaryVersions_j3) binaryVersions_j4) binaryVersions_j5) Xp) binaryVersions_j7) Xo) binaryVersions_j9) binaryVersions_j10) binaryVersions_j11) binaryVersions_j12) binaryVersions_j13) binaryVersions_j14) binaryVersions_j15) binaryVersions_j16) binaryVersions_j17) binaryVersions_j18) binaryVersions_j19) binaryVersions_j20) binaryVersions_j21) binaryVersions_j22) binaryVersions_j23) Nd) Nc) binaryVersions_j26) binaryVersions_j27) binaryVersions_j28) binaryVersions_j29) binaryVersions_j30) binaryVersions_j31)
theorem binaryVersions_named : Tryz.pinned.checked.prog.funcNamed Rows.binaryVersionsRow.func = some 7 := by kernel_rfl

theorem binaryVersions_row_holds : Rows.BinaryVersionsSaid :=
  OpenClaim.holds_of_wide 7 Tryz.f7 rfl rfl rfl rfl rfl rfl rfl ⟨rfl, rfl, rfl, rfl, rfl⟩ rfl rfl rfl rfl rfl binaryVersions_named Tryz.func7 binaryVersions_joined
    (of_decide_eq_true (by kernel_rfl)) (by unfold Func.isWrapper; rw [if_neg (of_decide_eq_false (by kernel_rfl))]; exact ⟨rfl, rfl⟩)
    (fun os started H enc _ => binaryVersions_lifted os started H enc)

theorem binaryVersions_k1 : Rows.binaryVersionsRow.wfByText (OpenSpec.ofChange Rows.binaryVersionsSpec) = true := by kernel_rfl
theorem binaryVersions_k2 : false = Rows.binaryVersionsRow.goesBy Tryz.prog := by kernel_rfl
theorem binaryVersions_holds : Rows.BinaryVersionsCardSaid :=
  Claim7.holds_tied_plain_at .later [] [.sentinel] true (true, "21cd7d88085a88a46529f49a80f1c1ae8c50f5ac4152a0b85a4be9318cf10102") true
    binaryVersions_row_holds (fun _ h => by cases h) binaryVersions_k1 (fun _ h => by cases h) binaryVersions_row_tie rfl ⟨rfl, rfl⟩ DE rfl
    (fun f fn hf hfn => by
      obtain rfl : f = 7 := Option.some.inj (binaryVersions_named.symm.trans hf) |>.symm
      obtain rfl : fn = Tryz.f7 := (Option.some.inj (Tryz.func7.symm.trans hfn)).symm
      exact ⟨DF, fun j t ht => by
        rw [Tryz.params7] at ht
        have hm : t ∈ [39] := by simpa using Array.mem_of_getElem? ht
        simp only [List.mem_cons, List.not_mem_nil, or_false] at hm
        rcases hm with rfl
        · exact EN⟩)
    binaryVersions_k2

end Go.Proofs.YtkkmjdceiocnbaaGreatDoor
