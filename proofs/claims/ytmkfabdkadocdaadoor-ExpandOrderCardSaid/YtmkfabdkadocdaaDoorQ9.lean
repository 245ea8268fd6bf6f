/-
  ExpandOrder returns true for every input, and leaves its arguments as they were. No conditions.
-/
import Derived.Test.YtmkfabdkadocdaaDoorU9
import Derived.Test.YtmkfabdkadocdaaDoorQB
namespace Go.Proofs.YtmkfabdkadocdaaDoor
open Go.RowKit Go.ChangeShapes Go.WideShapes Go.ChangeAt

set_option maxRecDepth 100000 in
theorem expandOrder_lifted (os : Os) (started : os.Started) (H : Type) (enc : TypeId × Value → H) :
    ReturnsInHanded {} Tryd.checked os 9 .any (fun w args => (Rows.expandOrderSpec.pre enc Tryd.prog Tryd.f9 [] false w args ∧ laidMetH Tryd.prog laidT w) ∧ sizedMet enc Tryd.prog Tryd.f9 (OpenSpec.ofChange Rows.expandOrderSpec) false w args) (Rows.expandOrderSpec.post enc Tryd.prog Tryd.f9 false true false false) := by
  refine law_lifted_laid (C := Tryd.checked) (X := laidMetH Tryd.prog laidT) (fun _ _ hh h => h.of_heap hh) ownT laid_out started (by kernel_rfl) Tryd.func9 rfl 4 (by kernel_rfl) Tryd.underlying4 (by kernel_rfl) ?_
    (ChangeSpec.witness_shaped (enc := enc) (C := Tryd.checked) (os := os) (X := fun w _ => laidMetH Tryd.prog laidT w) false (World.doorLaid Tryd.prog 400 os) #[.agg #[.slice none 0 0, .slice none 0 0, .slice none 0 0, .slice none 0 0, .slice none 0 0, .slice none 0 0, .slice none 0 0, .slice none 0 0, .slice none 0 0, .slice none 0 0, .slice none 0 0, .slice none 0 0, .slice none 0 0, .slice none 0 0, .slice none 0 0, .slice none 0 0, .slice none 0 0], .slice none 0 0, .int .u8 0] 8 rfl (World.shaped_of_RefB (by kernel_rfl) (by kernel_rfl)) (by kernel_rfl) (by kernel_rfl) (by kernel_rfl) (door_met os _)) ?_
  · intro ds hd
    rw [Tryd.params9] at hd
    match ds, hd with
    | [a, b, c], _ => rfl
  · intro W args hA hL
    have hA' : Args Tryd.prog W Tryd.f9.params.toList args.toList := hA
    rw [Tryd.params9] at hA'
    obtain ⟨a, b, c, he, h1, h2, h3⟩ := args_3 hA'
    obtain rfl : args = #[a, b, c] := by rw [← Array.toArray_toList (xs := args), he]
    obtain ⟨a0, a1, a2, a3, a4, a5, a6, a7, a8, v, a10, a11, a12, a13, a14, a15, a16, rs, rfl, hrs, hrok⟩ := pol_open h1
    obtain ⟨l, hl, hok⟩ := ents_open h2
    obtain ⟨k, rfl, hk⟩ := u8_open h3
    exact expandOrder_any W _ _ _ _ _ _ _ _ _ v _ _ _ _ _ _ _ rs b l k hrs hrok hl hok hk (of_laid hL)

theorem expandOrder_row_holds : Rows.ExpandOrderSaid :=
  OpenClaim.holds_of_wide 9 Tryd.f9 rfl rfl rfl rfl rfl rfl rfl ⟨rfl, rfl, rfl, rfl, rfl⟩ rfl rfl rfl rfl rfl (by kernel_rfl) Tryd.func9 (by kernel_rfl)
    (of_decide_eq_true (by kernel_rfl)) (by unfold Func.isWrapper; rw [if_neg (of_decide_eq_false (by kernel_rfl))]; exact ⟨rfl, rfl⟩)
    (fun os started H enc _ => expandOrder_lifted os started H enc)

theorem expandOrder_holds : Rows.ExpandOrderCardSaid :=
  Claim7.holds_tied_plain_at .later [] [.data] true (true, "22d16627acb37dc7b4cb7201a44cbc70f38b561c4dcb0f67bf7dfd606c0a4fa0") false
    expandOrder_row_holds (fun _ h => by cases h) (by kernel_rfl) (fun _ h => by cases h) expandOrder_row_tie rfl ⟨rfl, rfl⟩ (by kernel_rfl) rfl
    (fun f fn hf hfn => by
      obtain rfl : f = 9 := Option.some.inj ((show Tryd.prog.funcNamed "accesscontrol/accesscontrollaw15.ExpandOrder" = some 9 by kernel_rfl).symm.trans hf) |>.symm
      obtain rfl : fn = Tryd.f9 := (Option.some.inj (Tryd.func9.symm.trans hfn)).symm
      exact ⟨by kernel_rfl, fun j t ht => by
        rw [Tryd.params9] at ht
        have hm : t ∈ [50, 52, 5] := by simpa using Array.mem_of_getElem? ht
        have hall : ([50, 52, 5].all fun u => !Tryd.prog.wantsStandIn u) = true := by kernel_rfl
        exact (show Tryd.prog.wantsStandIn t = false by simpa using List.all_eq_true.1 hall t hm)⟩)
    (by kernel_rfl)

end Go.Proofs.YtmkfabdkadocdaaDoor
