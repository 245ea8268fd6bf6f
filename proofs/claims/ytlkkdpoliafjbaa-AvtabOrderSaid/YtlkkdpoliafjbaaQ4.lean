/-
  AvtabOrder returns true for every input, and leaves its arguments as they were. No conditions.
-/
import Derived.Test.YtlkkdpoliafjbaaPF
import Derived.Test.YtlkkdpoliafjbaaQA
namespace Go.Proofs.Ytlkkdpoliafjbaa
open Go.RowKit Go.ChangeShapes Go.WideShapes Go.ChangeAt

set_option maxRecDepth 100000 in
theorem avtabOrder_lifted (os : Os) (started : os.Started) (H : Type) (enc : TypeId × Value → H) :
    ReturnsInHanded {} Try.checked os 4 .any (Rows.avtabOrderSpec.pre6 enc Try.prog Try.f4 Rows.avtabOrderRow.domain false) (Rows.avtabOrderSpec.post enc Try.prog Try.f4 false true false false) := by
  refine law_lifted (C := Try.checked) ownT laidT started (by kernel_rfl) Try.func4 rfl 4 (by kernel_rfl) Try.underlying4 (by kernel_rfl) ?_
    (ChangeSpec.witness6 (enc := enc) (C := Try.checked) false ⟨#[], #[.slice none 0 0, .slice none 0 0, .slice none 0 0], []⟩ 8 (by kernel_rfl) (by kernel_rfl) (by kernel_rfl) (by kernel_rfl)) ?_
  · intro ds hd
    rw [Try.params4] at hd
    match ds, hd with
    | [a, b, c], _ => rfl
  · intro W args hA
    have hA' : Args Try.prog W Try.f4.params.toList args.toList := hA
    rw [Try.params4] at hA'
    obtain ⟨a, b, c, he, h1, h2, h3⟩ := args_3 hA'
    obtain rfl : args = #[a, b, c] := by rw [← Array.toArray_toList (xs := args), he]
    obtain ⟨l, hl, ho⟩ := entrys_open h1
    obtain ⟨vals, hv⟩ := bools_open h2
    obtain ⟨vals2, hu⟩ := bools_open h3
    exact order_any W a b c l vals vals2 hl hv hu ho

theorem avtabOrder_holds : Rows.AvtabOrderSaid :=
  OpenClaim.holds_of_wide 4 Try.f4 rfl rfl rfl rfl rfl rfl rfl ⟨rfl, rfl, rfl, rfl, rfl⟩ rfl rfl rfl rfl rfl (by kernel_rfl) Try.func4 (by kernel_rfl)
    (of_decide_eq_true (by kernel_rfl)) (by unfold Func.isWrapper; rw [if_neg (of_decide_eq_false (by kernel_rfl))]; exact ⟨rfl, rfl⟩)
    (fun os started H enc _ => avtabOrder_lifted os started H enc)

end Go.Proofs.Ytlkkdpoliafjbaa
