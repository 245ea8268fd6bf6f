/-
  CacheNeverStale returns true for every input, and leaves its arguments as they were. No conditions.
-/
import Derived.Test.YtcdhjcjdphnleaaP5
import Derived.Test.YtcdhjcjdphnleaaQA
namespace Go.Proofs.Ytcdhjcjdphnleaa
open Go.RowKit Go.ChangeShapes Go.WideShapes Go.ChangeAt

set_option maxRecDepth 100000 in
theorem cacheNeverStale_lifted (os : Os) (started : os.Started) (H : Type) (enc : TypeId × Value → H) :
    ReturnsInHanded {} Try.checked os 5 .any (Rows.cacheNeverStaleSpec.pre6 enc Try.prog Try.f5 Rows.cacheNeverStaleRow.domain false) (Rows.cacheNeverStaleSpec.post enc Try.prog Try.f5 false true false false) := by
  refine law_lifted (C := Try.checked) ownT laidT started (by kernel_rfl) Try.func5 rfl 4 (by kernel_rfl) Try.underlying4 (by kernel_rfl) ?_
    (ChangeSpec.witness6 (enc := enc) (C := Try.checked) false ⟨#[], #[.int .i64 0, .slice none 0 0], []⟩ 8 (by kernel_rfl) (by kernel_rfl) (by kernel_rfl) (by kernel_rfl)) ?_
  · intro ds hd
    rw [Try.params5] at hd
    match ds, hd with
    | [a, b], _ => rfl
  · intro W args hA
    have hA' : Args Try.prog W Try.f5.params.toList args.toList := hA
    rw [Try.params5] at hA'
    obtain ⟨a, b, he, h1, h2⟩ := args_2 hA'
    obtain rfl : args = #[a, b] := by rw [← Array.toArray_toList (xs := args), he]
    obtain ⟨n, rfl, -, -⟩ := int_open h1
    obtain ⟨l, hl, hw⟩ := ops_open h2
    exact cacheNeverStale_any W n b l hl hw

theorem cacheNeverStale_holds : Rows.CacheNeverStaleSaid :=
  OpenClaim.holds_of_wide 5 Try.f5 rfl rfl rfl rfl rfl rfl rfl ⟨rfl, rfl, rfl, rfl, rfl⟩ rfl rfl rfl rfl rfl (by kernel_rfl) Try.func5 (by kernel_rfl)
    (of_decide_eq_true (by kernel_rfl)) (by unfold Func.isWrapper; rw [if_neg (of_decide_eq_false (by kernel_rfl))]; exact ⟨rfl, rfl⟩)
    (fun os started H enc _ => cacheNeverStale_lifted os started H enc)

end Go.Proofs.Ytcdhjcjdphnleaa
