/-
  ExpandRules returns true for every input, and leaves its arguments as they were. No conditions.
-/
import Derived.Test.YtmkfabdkadocdaaDoorU7
import Derived.Test.YtmkfabdkadocdaaDoorQB
namespace Go.Proofs.YtmkfabdkadocdaaDoor
open Go.RowKit Go.ChangeShapes Go.WideShapes Go.ChangeAt

set_option maxRecDepth 100000 in
theorem expandRules_lifted (os : Os) (started : os.Started) (H : Type) (enc : TypeId × Value → H) :
    ReturnsInHanded {} Tryd.checked os 7 .any (fun w args => (Rows.expandRulesSpec.pre enc Tryd.prog Tryd.f7 [] false w args ∧ laidMetH Tryd.prog laidT w) ∧ sizedMet enc Tryd.prog Tryd.f7 (OpenSpec.ofChange Rows.expandRulesSpec) false w args) (Rows.expandRulesSpec.post enc Tryd.prog Tryd.f7 false true false false) := by
  refine law_lifted_laid (C := Tryd.checked) (X := laidMetH Tryd.prog laidT) (fun _ _ hh h => h.of_heap hh) ownT laid_out started (by kernel_rfl) Tryd.func7 rfl 4 (by kernel_rfl) Tryd.underlying4 (by kernel_rfl) ?_
    (ChangeSpec.witness_shaped (enc := enc) (C := Tryd.checked) (os := os) (X := fun w _ => laidMetH Tryd.prog laidT w) false (World.doorLaid Tryd.prog 400 os) #[.slice none 0 0] 8 rfl (World.shaped_of_RefB (by kernel_rfl) (by kernel_rfl)) (by kernel_rfl) (by kernel_rfl) (by kernel_rfl) (door_met os _)) ?_
  · intro ds hd
    rw [Tryd.params7] at hd
    match ds, hd with
    | [a], _ => rfl
  · intro W args hA hL
    have hA' : Args Tryd.prog W Tryd.f7.params.toList args.toList := hA
    rw [Tryd.params7] at hA'
    obtain ⟨a, he, h1⟩ := args_1 hA'
    obtain rfl : args = #[a] := by rw [← Array.toArray_toList (xs := args), he]
    obtain ⟨l, hl, hok⟩ := ents_open h1
    exact expandRules_any W a l hl hok (of_laid hL)

theorem expandRules_row_holds : Rows.ExpandRulesSaid :=
  OpenClaim.holds_of_wide 7 Tryd.f7 rfl rfl rfl rfl rfl rfl rfl ⟨rfl, rfl, rfl, rfl, rfl⟩ rfl rfl rfl rfl rfl (by kernel_rfl) Tryd.func7 (by kernel_rfl)
    (of_decide_eq_true (by kernel_rfl)) (by unfold Func.isWrapper; rw [if_neg (of_decide_eq_false (by kernel_rfl))]; exact ⟨rfl, rfl⟩)
    (fun os started H enc _ => expandRules_lifted os started H enc)

theorem expandRules_holds : Rows.ExpandRulesCardSaid :=
  Claim7.holds_tied_plain_at .later [] [.data] true (true, "22d16627acb37dc7b4cb7201a44cbc70f38b561c4dcb0f67bf7dfd606c0a4fa0") false
    expandRules_row_holds (fun _ h => by cases h) (by kernel_rfl) (fun _ h => by cases h) expandRules_row_tie rfl ⟨rfl, rfl⟩ (by kernel_rfl) rfl
    (fun f fn hf hfn => by
      obtain rfl : f = 7 := Option.some.inj ((show Tryd.prog.funcNamed "accesscontrol/accesscontrollaw15.ExpandRules" = some 7 by kernel_rfl).symm.trans hf) |>.symm
      obtain rfl : fn = Tryd.f7 := (Option.some.inj (Tryd.func7.symm.trans hfn)).symm
      exact ⟨by kernel_rfl, fun j t ht => by
        rw [Tryd.params7] at ht
        have hm : t ∈ [52] := by simpa using Array.mem_of_getElem? ht
        have hall : ([52].all fun u => !Tryd.prog.wantsStandIn u) = true := by kernel_rfl
        exact (show Tryd.prog.wantsStandIn t = false by simpa using List.all_eq_true.1 hall t hm)⟩)
    (by kernel_rfl)

end Go.Proofs.YtmkfabdkadocdaaDoor
