/-
  BinaryDamage returns true for every input, and leaves its arguments as they were. No conditions.
-/
import Derived.Test.YtkkmjdceiocnbaaGreatDoorSTH
namespace Go.Proofs.YtkkmjdceiocnbaaGreatDoor
open Go.RowKit Go.ChangeShapes Go.WideShapes Go.ChangeAt

set_option maxRecDepth 100000 in
theorem binaryDamage_lifted (os : Os) (started : os.Started) (H : Type) (enc : TypeId × Value → H) :
    ReturnsInHanded {} Tryz.checked os 8 .any (fun w args => (Rows.binaryDamageSpec.pre enc Tryz.prog Tryz.f8 [] false w args ∧ laidMetH Tryz.prog nO w) ∧ sizedMet enc Tryz.prog Tryz.f8 (OpenSpec.ofChange Rows.binaryDamageSpec) false w args) (Rows.binaryDamageSpec.post enc Tryz.prog Tryz.f8 false true false false) := by
  refine iq (C := Tryz.checked) (X := laidMetH Tryz.prog nO) (fun _ _ hh h => h.of_heap hh) MB uG started (by kernel_rfl) Tryz.func8 rfl 4 (by kernel_rfl) Tryz.underlying4 (by kernel_rfl) ?_
    (ChangeSpec.witness_shaped (enc := enc) (C := Tryz.checked) (os := os) (X := fun w _ => laidMetH Tryz.prog nO w) false (World.doorLaid Tryz.prog 400 os) #[.agg #[.slice none 0 0, .slice none 0 0, .slice none 0 0, .slice none 0 0, .slice none 0 0, .slice none 0 0, .slice none 0 0, .slice none 0 0, .slice none 0 0, .slice none 0 0, .slice none 0 0, .slice none 0 0, .slice none 0 0, .slice none 0 0, .slice none 0 0, .slice none 0 0, .slice none 0 0], .int .u16 0, .int .u8 0] 8 rfl (World.shaped_of_RefB (by kernel_rfl) (by kernel_rfl)) (by kernel_rfl) (by kernel_rfl) (by kernel_rfl) (tg os _)) ?_
  · intro ds hd
    rw [Tryz.params8] at hd
    match ds, hd with
    | [a, b, c], _ => rfl
  · intro W args hA hL
    have hA' : Args Tryz.prog W Tryz.f8.params.toList args.toList := hA
    rw [Tryz.params8] at hA'
    obtain ⟨a, b, c, he, h1, h2, h3⟩ := Kk hA'
    obtain rfl : args = #[a, b, c] := by rw [← Array.toArray_toList (xs := args), he]
    obtain ⟨c0, c1, c2, c3, c4, c5, c6, c7, c8, c9, c10, c11, c12, c13, c14, c15, c16, p, rfl, hp, hok⟩ := nJ h1
    obtain ⟨n, rfl, hn⟩ := OD h2
    obtain ⟨m, rfl, hm⟩ := RZ h3
    exact JY W c0 c1 c2 c3 c4 c5 c6 c7 c8 c9 c10 c11 c12 c13 c14 c15 c16 p hp hok n hn m hm
theorem binaryDamage_j0 : (Rows.binaryDamageRow.wf (OpenSpec.ofChange Rows.binaryDamageSpec)) = true := by kernel_rfl
theorem binaryDamage_j3 : (Tryz.f8.params.all (Tryz.prog.readableRec ·)) = true := by kernel_rfl
theorem binaryDamage_j4 : (namedTie Tryz.prog Rows.binaryDamageRow.named Rows.binaryDamageSpec.vars) = true := by kernel_rfl
theorem binaryDamage_j5 : ((Rows.binaryDamageRow.stops == [])) = true := by kernel_rfl
theorem binaryDamage_j7 : ((Rows.binaryDamageRow.knobs == [])) = true := by kernel_rfl
theorem binaryDamage_j9 : ((Rows.binaryDamageRow.inPlace == Tryz.prog.inPlace 8)) = true := by kernel_rfl
theorem binaryDamage_j10 : ((Rows.binaryDamageRow.unfollowed == Tryz.prog.unfollowed 8)) = true := by kernel_rfl
theorem binaryDamage_j11 : ((Rows.binaryDamageRow.recurses == Tryz.prog.recurses 8)) = true := by kernel_rfl
theorem binaryDamage_j12 : ((Rows.binaryDamageRow.named == Tryz.prog.varsNamed 8)) = true := by kernel_rfl
theorem binaryDamage_j13 : ((Rows.binaryDamageRow.maps == (Tryz.f8.params.toList ++ Rows.binaryDamageSpec.plain.varTypes Tryz.prog).any (Tryz.prog.mapsRec ·))) = true := by kernel_rfl
theorem binaryDamage_j14 : ((Rows.binaryDamageRow.ifaces == (Tryz.f8.params.toList ++ Rows.binaryDamageSpec.plain.varTypes Tryz.prog).any (Tryz.prog.ifacesRec ·))) = true := by kernel_rfl
theorem binaryDamage_j15 : ((Rows.binaryDamageRow.mapsOut == Tryz.prog.mapsAmong Tryz.f8.resultTypes.toList)) = true := by kernel_rfl
theorem binaryDamage_j16 : ((Rows.binaryDamageRow.loops == (Tryz.f8.params.toList ++ Rows.binaryDamageSpec.plain.varTypes Tryz.prog).any (Tryz.prog.loopsFrom ·))) = true := by kernel_rfl
theorem binaryDamage_j17 : ((Rows.binaryDamageRow.wideKeys == (Tryz.f8.params.toList ++ Rows.binaryDamageSpec.plain.varTypes Tryz.prog ++ Tryz.f8.resultTypes.toList).any (Tryz.prog.wideKeysFrom ·))) = true := by kernel_rfl
theorem binaryDamage_j18 : (Rows.binaryDamageSpec.vars.all (Tryz.prog.varReadable ·)) = true := by kernel_rfl
theorem binaryDamage_j19 : (Tryz.f8.resultTypes.all (fun t => Tryz.prog.readableRec t && decide (t < Tryz.prog.types.size))) = true := by kernel_rfl
theorem binaryDamage_j20 : ((Rows.binaryDamageRow.ifacesOut == Tryz.f8.resultTypes.toList.any (Tryz.prog.ifacesRec ·))) = true := by kernel_rfl
theorem binaryDamage_j21 : ((Rows.binaryDamageRow.loopsOut == Tryz.f8.resultTypes.toList.any (Tryz.prog.loopsFrom ·))) = true := by kernel_rfl
theorem binaryDamage_j22 : ((Rows.binaryDamageRow.plainKeys == Tryz.prog.plainKeys)) = true := by kernel_rfl
theorem binaryDamage_j23 : (Rows.binaryDamageRow.shortTexts.isNone) = true := by kernel_rfl
theorem binaryDamage_j26 : ((Rows.binaryDamageRow.lifted == Tryz.prog.liftsFinal)) = true := by kernel_rfl
theorem binaryDamage_j27 : ((Tryz.prog.make == some Rows.binaryDamageRow.make)) = true := by kernel_rfl
theorem binaryDamage_j28 : ((Rows.binaryDamageRow.kinds == (if Rows.binaryDamageRow.domain.isEmpty then [] else Tryz.f8.params.toList.map fun t => match Tryz.prog.underlying t with | some (.int k) => some k | _ => none))) = true := by kernel_rfl
theorem binaryDamage_j29 : ((Rows.binaryDamageRow.pinned == Rows.binaryDamageRow.pinnedBy)) = true := by kernel_rfl
theorem binaryDamage_j30 : ((Rows.binaryDamageRow.veiled == (Tryz.f8.params.toList ++ Rows.binaryDamageSpec.plain.varTypes Tryz.prog ++ Tryz.f8.resultTypes.toList).any (Tryz.prog.veiledRec ·))) = true := by kernel_rfl
theorem binaryDamage_j31 : (Rows.binaryDamageRow.veiledFits Tryz.prog Tryz.f8.params.toList (Tryz.f8.params.toList ++ Rows.binaryDamageSpec.plain.varTypes Tryz.prog ++ Tryz.f8.resultTypes.toList)) = true := by kernel_rfl
set_option maxRecDepth 100000 in
theorem binaryDamage_joined : joinedFacts Tryz.pinned.checked.prog 8 Tryz.f8 Rows.binaryDamageSpec Rows.binaryDamageRow = true := (aH (aH (aH (aH (aH (aH (aH (aH (aH (aH (aH (aH (aH (aH (aH (aH (aH (aH (aH (aH (aH (aH (aH (aH (aH (aH (aH (aH (aH (aH (aH binaryDamage_j0 uG) Xq) binaryDamage_j3) binaryDamage_j4) binaryDamage_j5) Xp) binaryDamage_j7) Xo) binaryDamage_j9) binaryDamage_j10) binaryDamage_j11) binaryDamage_j12) binaryDamage_j13) binaryDamage_j14) binaryDamage_j15) binaryDamage_j16) binaryDamage_j17) binaryDamage_j18) binaryDamage_j19) binaryDamage_j20) binaryDamage_j21) binaryDamage_j22) binaryDamage_j23) Nd) Nc) binaryDamage_j26) binaryDamage_j27) binaryDamage_j28) binaryDamage_j29) binaryDamage_j30) binaryDamage_j31)
theorem binaryDamage_named : Tryz.pinned.checked.prog.funcNamed Rows.binaryDamageRow.func = some 8 := by kernel_rfl

theorem binaryDamage_row_holds : Rows.BinaryDamageSaid :=
  OpenClaim.holds_of_wide 8 Tryz.f8 rfl rfl rfl rfl rfl rfl rfl ⟨rfl, rfl, rfl, rfl, rfl⟩ rfl rfl rfl rfl rfl binaryDamage_named Tryz.func8 binaryDamage_joined
    (of_decide_eq_true (by kernel_rfl)) (by unfold Func.isWrapper; rw [if_neg (of_decide_eq_false (by kernel_rfl))]; exact ⟨rfl, rfl⟩)
    (fun os started H enc _ => binaryDamage_lifted os started H enc)

theorem binaryDamage_k1 : Rows.binaryDamageRow.wfByText (OpenSpec.ofChange Rows.binaryDamageSpec) = true := by kernel_rfl
theorem binaryDamage_k2 : false = Rows.binaryDamageRow.goesBy Tryz.prog := by kernel_rfl
theorem binaryDamage_holds : Rows.BinaryDamageCardSaid :=
  Claim7.holds_tied_plain_at .later [] [.sentinel] true (true, "21cd7d88085a88a46529f49a80f1c1ae8c50f5ac4152a0b85a4be9318cf10102") true
    binaryDamage_row_holds (fun _ h => by cases h) binaryDamage_k1 (fun _ h => by cases h) binaryDamage_row_tie rfl ⟨rfl, rfl⟩ DE rfl
    (fun f fn hf hfn => by
      obtain rfl : f = 8 := Option.some.inj (binaryDamage_named.symm.trans hf) |>.symm
      obtain rfl : fn = Tryz.f8 := (Option.some.inj (Tryz.func8.symm.trans hfn)).symm
      exact ⟨DF, fun j t ht => by
        rw [Tryz.params8] at ht
        have hm : t ∈ [39, 56, 5] := by simpa using Array.mem_of_getElem? ht
        simp only [List.mem_cons, List.not_mem_nil, or_false] at hm
        rcases hm with rfl | rfl | rfl
        · exact EN
        · exact ab_
        · exact jw5⟩)
    binaryDamage_k2

end Go.Proofs.YtkkmjdceiocnbaaGreatDoor
