/-
  ExpandPairs returns true for every input, and leaves its arguments as they were. No conditions.
-/
import Derived.Test.YtmkfabdkadocdaaDoorU3
import Derived.Test.YtmkfabdkadocdaaDoorQA
namespace Go.Proofs.YtmkfabdkadocdaaDoor
open Go.RowKit Go.ChangeShapes Go.WideShapes Go.ChangeAt

set_option maxRecDepth 100000 in
theorem expandPairs_lifted (os : Os) (started : os.Started) (H : Type) (enc : TypeId × Value → H) :
    ReturnsInHanded {} Tryd.checked os 3 .any (fun w args => (Rows.expandPairsSpec.pre enc Tryd.prog Tryd.f3 [] false w args ∧ laidMetH Tryd.prog laidT w) ∧ sizedMet enc Tryd.prog Tryd.f3 (OpenSpec.ofChange Rows.expandPairsSpec) false w args) (Rows.expandPairsSpec.post enc Tryd.prog Tryd.f3 false true false false) := by
  refine law_lifted_laid (C := Tryd.checked) (X := laidMetH Tryd.prog laidT) (fun _ _ hh h => h.of_heap hh) ownT laid_out started (by kernel_rfl) Tryd.func3 rfl 4 (by kernel_rfl) Tryd.underlying4 (by kernel_rfl) ?_
    (ChangeSpec.witness_shaped (enc := enc) (C := Tryd.checked) (os := os) (X := fun w _ => laidMetH Tryd.prog laidT w) false (World.doorLaid Tryd.prog 400 os) #[.agg #[.int .i64 0, .int .u64 0, .int .u64 0, .int .u64 0, .int .u64 0, .int .u64 0, .int .u64 0, .int .u64 0, .int .u64 0, .bool false, .int .i64 0, .int .u32 0, .int .i64 0]] 8 rfl (World.shaped_of_RefB (by kernel_rfl) (by kernel_rfl)) (by kernel_rfl) (by kernel_rfl) (by kernel_rfl) (door_met os _)) ?_
  · intro ds hd
    rw [Tryd.params3] at hd
    match ds, hd with
    | [a], _ => rfl
  · intro W args hA hL
    have hA' : Args Tryd.prog W Tryd.f3.params.toList args.toList := hA
    rw [Tryd.params3] at hA'
    obtain ⟨a, he, h1⟩ := args_1 hA'
    obtain rfl : args = #[a] := by rw [← Array.toArray_toList (xs := args), he]
    obtain ⟨r, rfl, hr⟩ := rule_open h1
    exact expandPairs_any W r hr.ok (of_laid hL)

theorem expandPairs_row_holds : Rows.ExpandPairsSaid :=
  OpenClaim.holds_of_wide 3 Tryd.f3 rfl rfl rfl rfl rfl rfl rfl ⟨rfl, rfl, rfl, rfl, rfl⟩ rfl rfl rfl rfl rfl (by kernel_rfl) Tryd.func3 (by kernel_rfl)
    (of_decide_eq_true (by kernel_rfl)) (by unfold Func.isWrapper; rw [if_neg (of_decide_eq_false (by kernel_rfl))]; exact ⟨rfl, rfl⟩)
    (fun os started H enc _ => expandPairs_lifted os started H enc)

theorem expandPairs_holds : Rows.ExpandPairsCardSaid :=
  Claim7.holds_tied_plain_at .later [] [.data] true (true, "22d16627acb37dc7b4cb7201a44cbc70f38b561c4dcb0f67bf7dfd606c0a4fa0") false
    expandPairs_row_holds (fun _ h => by cases h) (by kernel_rfl) (fun _ h => by cases h) expandPairs_row_tie rfl ⟨rfl, rfl⟩ (by kernel_rfl) rfl
    (fun f fn hf hfn => by
      obtain rfl : f = 3 := Option.some.inj ((show Tryd.prog.funcNamed "accesscontrol/accesscontrollaw15.ExpandPairs" = some 3 by kernel_rfl).symm.trans hf) |>.symm
      obtain rfl : fn = Tryd.f3 := (Option.some.inj (Tryd.func3.symm.trans hfn)).symm
      exact ⟨by kernel_rfl, fun j t ht => by
        rw [Tryd.params3] at ht
        have hm : t ∈ [27] := by simpa using Array.mem_of_getElem? ht
        have hall : ([27].all fun u => !Tryd.prog.wantsStandIn u) = true := by kernel_rfl
        exact (show Tryd.prog.wantsStandIn t = false by simpa using List.all_eq_true.1 hall t hm)⟩)
    (by kernel_rfl)

end Go.Proofs.YtmkfabdkadocdaaDoor
