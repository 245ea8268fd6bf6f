/-
  OctetRoundTrip returns true for every input, and leaves the arguments as they were. No conditions.
-/
import Derived.Test.YtibikehfeobikaaV
import Derived.Test.YtibikehfeobikaaQ1
import Derived.Handy
namespace Go.Proofs.Ytibikehfeobikaa
open Go.RowKit Go.ChangeShapes Go.WideShapes Go.ChangeAt

set_option maxRecDepth 100000 in
theorem octetRoundTrip_lifted (os : Os) (started : os.Started) (H : Type) (enc : TypeId × Value → H) :
    ReturnsInHanded {} Try.checked os 4 .any (Rows.octetRoundTripSpec.pre6 enc Try.prog Try.f4 Rows.octetRoundTripRow.domain false) (Rows.octetRoundTripSpec.post enc Try.prog Try.f4 false true false false) := by
  refine law_lifted (C := Try.checked) ownT laidT started (by kernel_rfl) Try.func4 rfl 4 (by kernel_rfl) Try.underlying4 (by kernel_rfl) ?_
    (ChangeSpec.witness6 (enc := enc) (C := Try.checked) false ⟨#[], #[.agg #[.int .u64 0, .int .i64 0, .string ByteArray.empty, .int .u64 0, .int .u64 0, .int .u64 0, .int .u64 0], .slice none 0 0], []⟩ 8 (by kernel_rfl) (by kernel_rfl) (by kernel_rfl) (by kernel_rfl)) ?_
  · intro ds hd
    rw [Try.params4] at hd
    match ds, hd with
    | [a, b], _ => rfl
  · intro W args hA
    have hA' : Args Try.prog W Try.f4.params.toList args.toList := hA
    rw [Try.params4] at hA'
    obtain ⟨a, b, he, h1, h2⟩ := args_2 hA'
    obtain rfl : args = #[a, b] := by rw [← Array.toArray_toList (xs := args), he]
    obtain ⟨n, m, s, x0, x1, x2, x3, rfl, hn, hm, h3, h4, h5, h6⟩ := values_open h1
    obtain ⟨l, hl⟩ := bytes_open h2
    exact octetRoundTrip_any n m s x0 x1 x2 x3 b l W hl hn hm h3 h4 h5 h6

theorem octetRoundTrip_holds : Rows.OctetRoundTripSaid :=
  OpenClaim.holds_of_wide 4 Try.f4 rfl rfl rfl rfl rfl rfl rfl ⟨rfl, rfl, rfl, rfl, rfl⟩ rfl rfl rfl rfl rfl (by kernel_rfl) Try.func4 (by kernel_rfl)
    (of_decide_eq_true (by kernel_rfl)) (by unfold Func.isWrapper; rw [if_neg (of_decide_eq_false (by kernel_rfl))]; exact ⟨rfl, rfl⟩)
    (fun os started H enc _ => octetRoundTrip_lifted os started H enc)

end Go.Proofs.Ytibikehfeobikaa
