/-
  AvtabNil returns true for every input, and leaves its arguments as they were. No conditions.
-/
import Derived.Test.YtlkkdpoliafjbaaPH
import Derived.Test.YtlkkdpoliafjbaaQA
namespace Go.Proofs.Ytlkkdpoliafjbaa
open Go.RowKit Go.ChangeShapes Go.WideShapes Go.ChangeAt

set_option maxRecDepth 100000 in
theorem avtabNil_lifted (os : Os) (started : os.Started) (H : Type) (enc : TypeId × Value → H) :
    ReturnsInHanded {} Try.checked os 7 .any (Rows.avtabNilSpec.pre6 enc Try.prog Try.f7 Rows.avtabNilRow.domain false) (Rows.avtabNilSpec.post enc Try.prog Try.f7 false true false false) := by
  refine law_lifted (C := Try.checked) ownT laidT started (by kernel_rfl) Try.func7 rfl 4 (by kernel_rfl) Try.underlying4 (by kernel_rfl) ?_
    (ChangeSpec.witness6 (enc := enc) (C := Try.checked) false ⟨#[], #[.agg #[.int .i64 0, .int .i64 0, .int .i64 0, .int .u32 0], .slice none 0 0], []⟩ 8 (by kernel_rfl) (by kernel_rfl) (by kernel_rfl) (by kernel_rfl)) ?_
  · intro ds hd
    rw [Try.params7] at hd
    match ds, hd with
    | [a, b], _ => rfl
  · intro W args hA
    have hA' : Args Try.prog W Try.f7.params.toList args.toList := hA
    rw [Try.params7] at hA'
    obtain ⟨a, b, he, h1, h2⟩ := args_2 hA'
    obtain rfl : args = #[a, b] := by rw [← Array.toArray_toList (xs := args), he]
    obtain ⟨q, rfl, hq⟩ := quest_open h1
    obtain ⟨vals, hv⟩ := bools_open h2
    exact nil_any W q b vals hv

theorem avtabNil_holds : Rows.AvtabNilSaid :=
  OpenClaim.holds_of_wide 7 Try.f7 rfl rfl rfl rfl rfl rfl rfl ⟨rfl, rfl, rfl, rfl, rfl⟩ rfl rfl rfl rfl rfl (by kernel_rfl) Try.func7 (by kernel_rfl)
    (of_decide_eq_true (by kernel_rfl)) (by unfold Func.isWrapper; rw [if_neg (of_decide_eq_false (by kernel_rfl))]; exact ⟨rfl, rfl⟩)
    (fun os started H enc _ => avtabNil_lifted os started H enc)

end Go.Proofs.Ytlkkdpoliafjbaa
