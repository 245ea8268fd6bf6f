/-
  ExpandNever returns true for every input, and leaves its arguments as they were. No conditions.
-/
import Derived.Test.YtmkfabdkadocdaaDoorU6
import Derived.Test.YtmkfabdkadocdaaDoorQB
namespace Go.Proofs.YtmkfabdkadocdaaDoor
open Go.RowKit Go.ChangeShapes Go.WideShapes Go.ChangeAt

set_option maxRecDepth 100000 in
theorem expandNever_lifted (os : Os) (started : os.Started) (H : Type) (enc : TypeId × Value → H) :
    ReturnsInHanded {} Tryd.checked os 6 .any (fun w args => (Rows.expandNeverSpec.pre enc Tryd.prog Tryd.f6 [] false w args ∧ laidMetH Tryd.prog laidT w) ∧ sizedMet enc Tryd.prog Tryd.f6 (OpenSpec.ofChange Rows.expandNeverSpec) false w args) (Rows.expandNeverSpec.post enc Tryd.prog Tryd.f6 false true false false) := by
  refine law_lifted_laid (C := Tryd.checked) (X := laidMetH Tryd.prog laidT) (fun _ _ hh h => h.of_heap hh) ownT laid_out started (by kernel_rfl) Tryd.func6 rfl 4 (by kernel_rfl) Tryd.underlying4 (by kernel_rfl) ?_
    (ChangeSpec.witness_shaped (enc := enc) (C := Tryd.checked) (os := os) (X := fun w _ => laidMetH Tryd.prog laidT w) false (World.doorLaid Tryd.prog 400 os) #[.agg #[.slice none 0 0, .slice none 0 0, .slice none 0 0, .slice none 0 0, .slice none 0 0, .slice none 0 0, .slice none 0 0, .slice none 0 0, .slice none 0 0, .slice none 0 0, .slice none 0 0, .slice none 0 0, .slice none 0 0, .slice none 0 0, .slice none 0 0, .slice none 0 0, .slice none 0 0]] 8 rfl (World.shaped_of_RefB (by kernel_rfl) (by kernel_rfl)) (by kernel_rfl) (by kernel_rfl) (by kernel_rfl) (door_met os _)) ?_
  · intro ds hd
    rw [Tryd.params6] at hd
    match ds, hd with
    | [a], _ => rfl
  · intro W args hA hL
    have hA' : Args Tryd.prog W Tryd.f6.params.toList args.toList := hA
    rw [Tryd.params6] at hA'
    obtain ⟨a, he, h1⟩ := args_1 hA'
    obtain rfl : args = #[a] := by rw [← Array.toArray_toList (xs := args), he]
    obtain ⟨a0, a1, a2, a3, a4, a5, a6, a7, a8, v, a10, a11, a12, a13, a14, a15, a16, l, rfl, hl, hok⟩ := pol_open h1
    exact expandNever_any W _ _ _ _ _ _ _ _ _ v _ _ _ _ _ _ _ l hl hok (of_laid hL)

theorem expandNever_row_holds : Rows.ExpandNeverSaid :=
  OpenClaim.holds_of_wide 6 Tryd.f6 rfl rfl rfl rfl rfl rfl rfl ⟨rfl, rfl, rfl, rfl, rfl⟩ rfl rfl rfl rfl rfl (by kernel_rfl) Tryd.func6 (by kernel_rfl)
    (of_decide_eq_true (by kernel_rfl)) (by unfold Func.isWrapper; rw [if_neg (of_decide_eq_false (by kernel_rfl))]; exact ⟨rfl, rfl⟩)
    (fun os started H enc _ => expandNever_lifted os started H enc)

theorem expandNever_holds : Rows.ExpandNeverCardSaid :=
  Claim7.holds_tied_plain_at .later [] [.data] true (true, "22d16627acb37dc7b4cb7201a44cbc70f38b561c4dcb0f67bf7dfd606c0a4fa0") false
    expandNever_row_holds (fun _ h => by cases h) (by kernel_rfl) (fun _ h => by cases h) expandNever_row_tie rfl ⟨rfl, rfl⟩ (by kernel_rfl) rfl
    (fun f fn hf hfn => by
      obtain rfl : f = 6 := Option.some.inj ((show Tryd.prog.funcNamed "accesscontrol/accesscontrollaw15.ExpandNever" = some 6 by kernel_rfl).symm.trans hf) |>.symm
      obtain rfl : fn = Tryd.f6 := (Option.some.inj (Tryd.func6.symm.trans hfn)).symm
      exact ⟨by kernel_rfl, fun j t ht => by
        rw [Tryd.params6] at ht
        have hm : t ∈ [50] := by simpa using Array.mem_of_getElem? ht
        have hall : ([50].all fun u => !Tryd.prog.wantsStandIn u) = true := by kernel_rfl
        exact (show Tryd.prog.wantsStandIn t = false by simpa using List.all_eq_true.1 hall t hm)⟩)
    (by kernel_rfl)

end Go.Proofs.YtmkfabdkadocdaaDoor
