/-
  BinaryCanonical returns true for every input, and leaves its argument as it was. No conditions.
-/
import Derived.Test.YtkkmjdceiocnbaaGreatDoorSTE
namespace Go.Proofs.YtkkmjdceiocnbaaGreatDoor
open Go.RowKit Go.ChangeShapes Go.WideShapes Go.ChangeAt

set_option maxRecDepth 100000 in
theorem binaryCanonical_lifted (os : Os) (started : os.Started) (H : Type) (enc : TypeId × Value → H) :
    ReturnsInHanded {} Tryz.checked os 6 .any (fun w args => (Rows.binaryCanonicalSpec.pre enc Tryz.prog Tryz.f6 [] false w args ∧ laidMetH Tryz.prog nO w) ∧ sizedMet enc Tryz.prog Tryz.f6 (OpenSpec.ofChange Rows.binaryCanonicalSpec) false w args) (Rows.binaryCanonicalSpec.post enc Tryz.prog Tryz.f6 false true false false) := by
  refine iq (C := Tryz.checked) (X := laidMetH Tryz.prog nO) (fun _ _ hh h => h.of_heap hh) MB uG started (by kernel_rfl) Tryz.func6 rfl 4 (by kernel_rfl) Tryz.underlying4 (by kernel_rfl) ?_
    (ChangeSpec.witness_shaped (enc := enc) (C := Tryz.checked) (os := os) (X := fun w _ => laidMetH Tryz.prog nO w) false (World.doorLaid Tryz.prog 400 os) #[.slice none 0 0] 8 rfl (World.shaped_of_RefB (by kernel_rfl) (by kernel_rfl)) (by kernel_rfl) (by kernel_rfl) (by kernel_rfl) (tg os _)) ?_
  · intro ds hd
    rw [Tryz.params6] at hd
    match ds, hd with
    | [a], _ => rfl
  · intro W args hA hL
    have hA' : Args Tryz.prog W Tryz.f6.params.toList args.toList := hA
    rw [Tryz.params6] at hA'
    obtain ⟨a, he, h1⟩ := Km hA'
    obtain rfl : args = #[a] := by rw [← Array.toArray_toList (xs := args), he]
    obtain ⟨l, hl⟩ := NM h1
    exact C2 W a l hl
theorem binaryCanonical_j0 : (Rows.binaryCanonicalRow.wf (OpenSpec.ofChange Rows.binaryCanonicalSpec)) = true := by kernel_rfl
theorem binaryCanonical_j3 : (Tryz.f6.params.all (Tryz.prog.readableRec ·)) = true := by kernel_rfl
theorem binaryCanonical_j4 : (namedTie Tryz.prog Rows.binaryCanonicalRow.named Rows.binaryCanonicalSpec.vars) = true := by kernel_rfl
theorem binaryCanonical_j5 : ((Rows.binaryCanonicalRow.stops == [])) = true := by kernel_rfl
theorem binaryCanonical_j7 : ((Rows.binaryCanonicalRow.knobs == [])) = true := by kernel_rfl
theorem binaryCanonical_j9 : ((Rows.binaryCanonicalRow.inPlace == Tryz.prog.inPlace 6)) = true := by kernel_rfl
theorem binaryCanonical_j10 : ((Rows.binaryCanonicalRow.unfollowed == Tryz.prog.unfollowed 6)) = true := by kernel_rfl
theorem binaryCanonical_j11 : ((Rows.binaryCanonicalRow.recurses == Tryz.prog.recurses 6)) = true := by kernel_rfl
theorem binaryCanonical_j12 : ((Rows.binaryCanonicalRow.named == Tryz.prog.varsNamed 6)) = true := by kernel_rfl
theorem binaryCanonical_j13 : ((Rows.binaryCanonicalRow.maps == (Tryz.f6.params.toList ++ Rows.binaryCanonicalSpec.plain.varTypes Tryz.prog).any (Tryz.prog.mapsRec ·))) = true := by kernel_rfl
theorem binaryCanonical_j14 : ((Rows.binaryCanonicalRow.ifaces == (Tryz.f6.params.toList ++ Rows.binaryCanonicalSpec.plain.varTypes Tryz.prog).any (Tryz.prog.ifacesRec ·))) = true := by kernel_rfl
theorem binaryCanonical_j15 : ((Rows.binaryCanonicalRow.mapsOut == Tryz.prog.mapsAmong Tryz.f6.resultTypes.toList)) = true := by kernel_rfl
theorem binaryCanonical_j16 : ((Rows.binaryCanonicalRow.loops == (Tryz.f6.params.toList ++ Rows.binaryCanonicalSpec.plain.varTypes Tryz.prog).any (Tryz.prog.loopsFrom ·))) = true := by kernel_rfl
theorem binaryCanonical_j17 : ((Rows.binaryCanonicalRow.wideKeys == (Tryz.f6.params.toList ++ Rows.binaryCanonicalSpec.plain.varTypes Tryz.prog ++ Tryz.f6.resultTypes.toList).any (Tryz.prog.wideKeysFrom ·))) = true := by kernel_rfl
theorem binaryCanonical_j18 : (Rows.binaryCanonicalSpec.vars.all (Tryz.prog.varReadable ·)) = true := by kernel_rfl
theorem binaryCanonical_j19 : (Tryz.f6.resultTypes.all (fun t => Tryz.prog.readableRec t && decide (t < Tryz.prog.types.size))) = true := by kernel_rfl
theorem binaryCanonical_j20 : ((Rows.binaryCanonicalRow.ifacesOut == Tryz.f6.resultTypes.toList.any (Tryz.prog.ifacesRec ·))) = true := by kernel_rfl
theorem binaryCanonical_j21 : ((Rows.binaryCanonicalRow.loopsOut == Tryz.f6.resultTypes.toList.any (Tryz.prog.loopsFrom ·))) = true := by kernel_rfl
theorem binaryCanonical_j22 : ((Rows.binaryCanonicalRow.plainKeys == Tryz.prog.plainKeys)) = true := by kernel_rfl
theorem binaryCanonical_j23 : (Rows.binaryCanonicalRow.shortTexts.isNone) = true := by kernel_rfl
theorem binaryCanonical_j26 : ((Rows.binaryCanonicalRow.lifted == Tryz.prog.liftsFinal)) = true := by kernel_rfl
theorem binaryCanonical_j27 : ((Tryz.prog.make == some Rows.binaryCanonicalRow.make)) = true := by kernel_rfl
theorem binaryCanonical_j28 : ((Rows.binaryCanonicalRow.kinds == (if Rows.binaryCanonicalRow.domain.isEmpty then [] else Tryz.f6.params.toList.map fun t => match Tryz.prog.underlying t with | some (.int k) => some k | _ => none))) = true := by kernel_rfl
theorem binaryCanonical_j29 : ((Rows.binaryCanonicalRow.pinned == Rows.binaryCanonicalRow.pinnedBy)) = true := by kernel_rfl
theorem binaryCanonical_j30 : ((Rows.binaryCanonicalRow.veiled == (Tryz.f6.params.toList ++ Rows.binaryCanonicalSpec.plain.varTypes Tryz.prog ++ Tryz.f6.resultTypes.toList).any (Tryz.prog.veiledRec ·))) = true := by kernel_rfl
theorem binaryCanonical_j31 : (Rows.binaryCanonicalRow.veiledFits Tryz.prog Tryz.f6.params.toList (Tryz.f6.params.toList ++ Rows.binaryCanonicalSpec.plain.varTypes Tryz.prog ++ Tryz.f6.resultTypes.toList)) = true := by kernel_rfl
set_option maxRecDepth 100000 in
theorem binaryCanonical_joined : joinedFacts Tryz.pinned.checked.prog 6 Tryz.f6 Rows.binaryCanonicalSpec Rows.binaryCanonicalRow = true := (aH (aH (aH (aH (aH (aH (aH (aH (aH (aH (aH (aH (aH (aH (aH (aH (aH (aH (aH (aH (aH (aH (aH (aH (aH (aH (aH (aH (aH (aH (aH binaryCanonical_j0 uG) Xq) binaryCanonical_j3) binaryCanonical_j4) binaryCanonical_j5) Xp) binaryCanonical_j7) Xo) binaryCanonical_j9) binaryCanonical_j10) binaryCanonical_j11) binaryCanonical_j12) binaryCanonical_j13) binaryCanonical_j14) binaryCanonical_j15) binaryCanonical_j16) binaryCanonical_j17) binaryCanonical_j18) binaryCanonical_j19) binaryCanonical_j20) binaryCanonical_j21) binaryCanonical_j22) binaryCanonical_j23) Nd) Nc) binaryCanonical_j26) binaryCanonical_j27) binaryCanonical_j28) binaryCanonical_j29) binaryCanonical_j30) binaryCanonical_j31)
theorem binaryCanonical_named : Tryz.pinned.checked.prog.funcNamed Rows.binaryCanonicalRow.func = some 6 := by kernel_rfl

theorem binaryCanonical_row_holds : Rows.BinaryCanonicalSaid :=
  OpenClaim.holds_of_wide 6 Tryz.f6 rfl rfl rfl rfl rfl rfl rfl ⟨rfl, rfl, rfl, rfl, rfl⟩ rfl rfl rfl rfl rfl binaryCanonical_named Tryz.func6 binaryCanonical_joined
    (of_decide_eq_true (by kernel_rfl)) (by unfold Func.isWrapper; rw [if_neg (of_decide_eq_false (by kernel_rfl))]; exact ⟨rfl, rfl⟩)
    (fun os started H enc _ => binaryCanonical_lifted os started H enc)

theorem binaryCanonical_k1 : Rows.binaryCanonicalRow.wfByText (OpenSpec.ofChange Rows.binaryCanonicalSpec) = true := by kernel_rfl
theorem binaryCanonical_k2 : false = Rows.binaryCanonicalRow.goesBy Tryz.prog := by kernel_rfl
theorem binaryCanonical_holds : Rows.BinaryCanonicalCardSaid :=
  Claim7.holds_tied_plain_at .later [] [.sentinel] true (true, "21cd7d88085a88a46529f49a80f1c1ae8c50f5ac4152a0b85a4be9318cf10102") true
    binaryCanonical_row_holds (fun _ h => by cases h) binaryCanonical_k1 (fun _ h => by cases h) binaryCanonical_row_tie rfl ⟨rfl, rfl⟩ DE rfl
    (fun f fn hf hfn => by
      obtain rfl : f = 6 := Option.some.inj (binaryCanonical_named.symm.trans hf) |>.symm
      obtain rfl : fn = Tryz.f6 := (Option.some.inj (Tryz.func6.symm.trans hfn)).symm
      exact ⟨DF, fun j t ht => by
        rw [Tryz.params6] at ht
        have hm : t ∈ [42] := by simpa using Array.mem_of_getElem? ht
        simp only [List.mem_cons, List.not_mem_nil, or_false] at hm
        rcases hm with rfl
        · exact acd⟩)
    binaryCanonical_k2

end Go.Proofs.YtkkmjdceiocnbaaGreatDoor
