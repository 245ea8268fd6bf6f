/-
  CacheCopies returns true for every input, and leaves its arguments as they were. No conditions.
-/
import Derived.Test.YtcdhjcjdphnleaaP8
import Derived.Test.YtcdhjcjdphnleaaQA
namespace Go.Proofs.Ytcdhjcjdphnleaa
open Go.RowKit Go.ChangeShapes Go.WideShapes Go.ChangeAt

set_option maxRecDepth 100000 in
theorem cacheCopies_lifted (os : Os) (started : os.Started) (H : Type) (enc : TypeId × Value → H) :
    ReturnsInHanded {} Try.checked os 8 .any (Rows.cacheCopiesSpec.pre6 enc Try.prog Try.f8 Rows.cacheCopiesRow.domain false) (Rows.cacheCopiesSpec.post enc Try.prog Try.f8 false true false false) := by
  refine law_lifted (C := Try.checked) ownT laidT started (by kernel_rfl) Try.func8 rfl 4 (by kernel_rfl) Try.underlying4 (by kernel_rfl) ?_
    (ChangeSpec.witness6 (enc := enc) (C := Try.checked) false ⟨#[], #[.int .i64 0, .slice none 0 0, .slice none 0 0], []⟩ 8 (by kernel_rfl) (by kernel_rfl) (by kernel_rfl) (by kernel_rfl)) ?_
  · intro ds hd
    rw [Try.params8] at hd
    match ds, hd with
    | [a, b, c], _ => rfl
  · intro W args hA
    have hA' : Args Try.prog W Try.f8.params.toList args.toList := hA
    rw [Try.params8] at hA'
    obtain ⟨a, b, c, he, h1, h2, h3⟩ := args_3 hA'
    obtain rfl : args = #[a, b, c] := by rw [← Array.toArray_toList (xs := args), he]
    obtain ⟨n, rfl, -, -⟩ := int_open h1
    obtain ⟨l, hl, hw⟩ := ops_open h2
    obtain ⟨l', hl', hw'⟩ := ops_open h3
    exact cacheCopies_any W n b c l l' hl hl' hw hw'

theorem cacheCopies_holds : Rows.CacheCopiesSaid :=
  OpenClaim.holds_of_wide 8 Try.f8 rfl rfl rfl rfl rfl rfl rfl ⟨rfl, rfl, rfl, rfl, rfl⟩ rfl rfl rfl rfl rfl (by kernel_rfl) Try.func8 (by kernel_rfl)
    (of_decide_eq_true (by kernel_rfl)) (by unfold Func.isWrapper; rw [if_neg (of_decide_eq_false (by kernel_rfl))]; exact ⟨rfl, rfl⟩)
    (fun os started H enc _ => cacheCopies_lifted os started H enc)

end Go.Proofs.Ytcdhjcjdphnleaa
