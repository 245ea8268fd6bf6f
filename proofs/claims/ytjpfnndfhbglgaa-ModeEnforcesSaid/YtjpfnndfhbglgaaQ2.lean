/-
  ModeParts and ModeEnforces return true for every input, and leave their arguments as they were. No conditions.
-/
import Derived.Test.YtjpfnndfhbglgaaP3
import Derived.Test.YtjpfnndfhbglgaaQ1
namespace Go.Proofs.Ytjpfnndfhbglgaa
open Go.RowKit Go.ChangeShapes Go.WideShapes Go.ChangeAt

set_option maxRecDepth 100000 in
theorem req_open {w : World} {v : Value} (h : Arg Try.prog w 58 v) : ∃ (x y : Int) (en : Bool), v = .agg #[.int .u32 x, .int .u32 y, .bool en] := by
  obtain ⟨f, cs, h, rfl⟩ := h
  rw [Try.underlying58]
  obtain ⟨f', rfl, h⟩ := h.struct Try.underlying58
  obtain ⟨c0, _, rfl, -, r0, c1, _, rfl, -, r1, c2, _, rfl, -, r2, hn⟩ := h
  obtain rfl : _ = [] := hn
  obtain ⟨A, rfl, _⟩ := r0.int Try.underlying22
  obtain ⟨B, rfl, _⟩ := r1.int Try.underlying22
  obtain ⟨P, rfl⟩ := r2.bool Try.underlying4
  exact ⟨A, B, P, rfl⟩

set_option maxRecDepth 100000 in
theorem modeParts_lifted (os : Os) (started : os.Started) (H : Type) (enc : TypeId × Value → H) :
    ReturnsInHanded {} Try.checked os 6 .any (Rows.modePartsSpec.pre6 enc Try.prog Try.f6 Rows.modePartsRow.domain false) (Rows.modePartsSpec.post enc Try.prog Try.f6 false true false false) := by
  refine law_lifted (C := Try.checked) ownT laidT started (by kernel_rfl) Try.func6 rfl 4 (by kernel_rfl) Try.underlying4 (by kernel_rfl) ?_
    (ChangeSpec.witness6 (enc := enc) (C := Try.checked) false ⟨#[], #[.agg #[.int .u32 0, .int .u32 0, .int .u32 0, .bool false, .int .i64 0], .agg #[.int .u32 0, .int .u32 0, .bool false]], []⟩ 8 (by kernel_rfl) (by kernel_rfl) (by kernel_rfl) (by kernel_rfl)) ?_
  · intro ds hd
    rw [Try.params6] at hd
    match ds, hd with
    | [a, b], _ => rfl
  · intro W args hA
    have hA' : Args Try.prog W Try.f6.params.toList args.toList := hA
    rw [Try.params6] at hA'
    obtain ⟨a, b, he, h1, h2⟩ := args_two hA'
    obtain rfl : args = #[a, b] := by rw [← Array.toArray_toList (xs := args), he]
    obtain ⟨A, B, C, S, P, rfl⟩ := dec_open h1
    obtain ⟨x, y, en, rfl⟩ := req_open h2
    exact modeParts_any A B C S x y P en W

theorem modeParts_holds : Rows.ModePartsSaid :=
  OpenClaim.holds_of_wide 6 Try.f6 rfl rfl rfl rfl rfl rfl rfl ⟨rfl, rfl, rfl, rfl, rfl⟩ rfl rfl rfl rfl rfl (by kernel_rfl) Try.func6 (by kernel_rfl)
    (of_decide_eq_true (by kernel_rfl)) (by unfold Func.isWrapper; rw [if_neg (of_decide_eq_false (by kernel_rfl))]; exact ⟨rfl, rfl⟩)
    (fun os started H enc _ => modeParts_lifted os started H enc)

set_option maxRecDepth 100000 in
theorem modeEnforces_lifted (os : Os) (started : os.Started) (H : Type) (enc : TypeId × Value → H) :
    ReturnsInHanded {} Try.checked os 7 .any (Rows.modeEnforcesSpec.pre6 enc Try.prog Try.f7 Rows.modeEnforcesRow.domain false) (Rows.modeEnforcesSpec.post enc Try.prog Try.f7 false true false false) := by
  refine law_lifted (C := Try.checked) ownT laidT started (by kernel_rfl) Try.func7 rfl 4 (by kernel_rfl) Try.underlying4 (by kernel_rfl) ?_
    (ChangeSpec.witness6 (enc := enc) (C := Try.checked) false ⟨#[], #[.agg #[.int .u32 0, .int .u32 0, .int .u32 0, .bool false, .int .i64 0], .int .u32 0], []⟩ 8 (by kernel_rfl) (by kernel_rfl) (by kernel_rfl) (by kernel_rfl)) ?_
  · intro ds hd
    rw [Try.params7] at hd
    match ds, hd with
    | [a, b], _ => rfl
  · intro W args hA
    have hA' : Args Try.prog W Try.f7.params.toList args.toList := hA
    rw [Try.params7] at hA'
    obtain ⟨a, b, he, h1, h2⟩ := args_two hA'
    obtain rfl : args = #[a, b] := by rw [← Array.toArray_toList (xs := args), he]
    obtain ⟨A, B, C, S, P, rfl⟩ := dec_open h1
    obtain ⟨p, rfl⟩ := u32_open h2
    exact modeEnforces_any A B C S p P W

theorem modeEnforces_holds : Rows.ModeEnforcesSaid :=
  OpenClaim.holds_of_wide 7 Try.f7 rfl rfl rfl rfl rfl rfl rfl ⟨rfl, rfl, rfl, rfl, rfl⟩ rfl rfl rfl rfl rfl (by kernel_rfl) Try.func7 (by kernel_rfl)
    (of_decide_eq_true (by kernel_rfl)) (by unfold Func.isWrapper; rw [if_neg (of_decide_eq_false (by kernel_rfl))]; exact ⟨rfl, rfl⟩)
    (fun os started H enc _ => modeEnforces_lifted os started H enc)
end Go.Proofs.Ytjpfnndfhbglgaa
