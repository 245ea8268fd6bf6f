/-
  ModeJudge and ModeWorst return true for every input, and leave their arguments as they were. No conditions.
-/
import Derived.Test.YtjpfnndfhbglgaaP1
import Derived.Handy
namespace Go.Proofs.Ytjpfnndfhbglgaa
open Go.RowKit Go.ChangeShapes Go.WideShapes Go.ChangeAt

theorem ownT : ownKnob Try.prog.godebug = none := by kernel_rfl
theorem laidT : laidOutB Try.prog = true := by kernel_rfl

set_option maxRecDepth 100000 in
theorem dec_open {w : World} {v : Value} (h : Arg Try.prog w 24 v) : ∃ (A B C S : Int) (P : Bool), v = .agg #[.int .u32 A, .int .u32 B, .int .u32 C, .bool P, .int .i64 S] := by
  obtain ⟨f, cs, h, rfl⟩ := h
  rw [Try.underlying24]
  obtain ⟨f', rfl, h⟩ := h.struct Try.underlying24
  obtain ⟨c0, _, rfl, -, r0, c1, _, rfl, -, r1, c2, _, rfl, -, r2, c3, _, rfl, -, r3, c4, _, rfl, -, r4, hn⟩ := h
  obtain rfl : _ = [] := hn
  obtain ⟨A, rfl, _⟩ := r0.int Try.underlying22
  obtain ⟨B, rfl, _⟩ := r1.int Try.underlying22
  obtain ⟨C, rfl, _⟩ := r2.int Try.underlying22
  obtain ⟨P, rfl⟩ := r3.bool Try.underlying4
  obtain ⟨S, rfl, _⟩ := r4.int Try.underlying3
  exact ⟨A, B, C, S, P, rfl⟩
set_option maxRecDepth 100000 in
theorem u32_open {w : World} {v : Value} (h : Arg Try.prog w 22 v) : ∃ n : Int, v = .int .u32 n := by
  obtain ⟨f, cs, h, rfl⟩ := h
  rw [Try.underlying22]
  obtain ⟨A, rfl, _⟩ := h.int Try.underlying22
  exact ⟨A, rfl⟩
set_option maxRecDepth 100000 in
theorem bool_open {w : World} {v : Value} (h : Arg Try.prog w 4 v) : ∃ b : Bool, v = .bool b := by
  obtain ⟨f, cs, h, rfl⟩ := h
  rw [Try.underlying4]
  obtain ⟨b, rfl⟩ := h.bool Try.underlying4
  exact ⟨b, rfl⟩

theorem args_two {P : Program} {w : World} {t u : TypeId} {vs : List Value} (h : Args P w [t, u] vs) : ∃ a b, vs = [a, b] ∧ Arg P w t a ∧ Arg P w u b := by
  match vs, h with
  | [a, b], ⟨h1, h2, _⟩ => exact ⟨a, b, rfl, h1, h2⟩
theorem args_three {P : Program} {w : World} {t u s : TypeId} {vs : List Value} (h : Args P w [t, u, s] vs) : ∃ a b c, vs = [a, b, c] ∧ Arg P w t a ∧ Arg P w u b ∧ Arg P w s c := by
  match vs, h with
  | [a, b, c], ⟨h1, h2, h3, _⟩ => exact ⟨a, b, c, rfl, h1, h2, h3⟩
set_option maxRecDepth 100000 in
theorem modeJudge_lifted (os : Os) (started : os.Started) (H : Type) (enc : TypeId × Value → H) :
    ReturnsInHanded {} Try.checked os 3 .any (Rows.modeJudgeSpec.pre6 enc Try.prog Try.f3 Rows.modeJudgeRow.domain false) (Rows.modeJudgeSpec.post enc Try.prog Try.f3 false true false false) := by
  refine law_lifted (C := Try.checked) ownT laidT started (by kernel_rfl) Try.func3 rfl 4 (by kernel_rfl) Try.underlying4 (by kernel_rfl) ?_
    (ChangeSpec.witness6 (enc := enc) (C := Try.checked) false ⟨#[], #[.agg #[.int .u32 0, .int .u32 0, .int .u32 0, .bool false, .int .i64 0], .int .u32 0, .bool false], []⟩ 8 (by kernel_rfl) (by kernel_rfl) (by kernel_rfl) (by kernel_rfl)) ?_
  · intro ds hd
    rw [Try.params3] at hd
    match ds, hd with
    | [a, b, c], _ => rfl
  · intro W args hA
    have hA' : Args Try.prog W Try.f3.params.toList args.toList := hA
    rw [Try.params3] at hA'
    obtain ⟨a, b, c, he, h1, h2, h3⟩ := args_three hA'
    obtain rfl : args = #[a, b, c] := by rw [← Array.toArray_toList (xs := args), he]
    obtain ⟨A, B, C, S, P, rfl⟩ := dec_open h1
    obtain ⟨p, rfl⟩ := u32_open h2
    obtain ⟨en, rfl⟩ := bool_open h3
    exact modeJudge_any A B C S p P en W

theorem modeJudge_holds : Rows.ModeJudgeSaid :=
  OpenClaim.holds_of_wide 3 Try.f3 rfl rfl rfl rfl rfl rfl rfl ⟨rfl, rfl, rfl, rfl, rfl⟩ rfl rfl rfl rfl rfl (by kernel_rfl) Try.func3 (by kernel_rfl)
    (of_decide_eq_true (by kernel_rfl)) (by unfold Func.isWrapper; rw [if_neg (of_decide_eq_false (by kernel_rfl))]; exact ⟨rfl, rfl⟩)
    (fun os started H enc _ => modeJudge_lifted os started H enc)

set_option maxRecDepth 100000 in
theorem modeWorst_lifted (os : Os) (started : os.Started) (H : Type) (enc : TypeId × Value → H) :
    ReturnsInHanded {} Try.checked os 5 .any (Rows.modeWorstSpec.pre6 enc Try.prog Try.f5 Rows.modeWorstRow.domain false) (Rows.modeWorstSpec.post enc Try.prog Try.f5 false true false false) := by
  refine law_lifted (C := Try.checked) ownT laidT started (by kernel_rfl) Try.func5 rfl 4 (by kernel_rfl) Try.underlying4 (by kernel_rfl) ?_
    (ChangeSpec.witness6 (enc := enc) (C := Try.checked) false ⟨#[], #[.agg #[.bool false, .int .u32 0, .int .u32 0, .int .u32 0, .bool false], .agg #[.bool false, .int .u32 0, .int .u32 0, .int .u32 0, .bool false]], []⟩ 8 (by kernel_rfl) (by kernel_rfl) (by kernel_rfl) (by kernel_rfl)) ?_
  · intro ds hd
    rw [Try.params5] at hd
    match ds, hd with
    | [a, b], _ => rfl
  · intro W args hA
    have hA' : Args Try.prog W Try.f5.params.toList args.toList := hA
    rw [Try.params5] at hA'
    obtain ⟨a, b, he, h1, h2⟩ := args_two hA'
    obtain rfl : args = #[a, b] := by rw [← Array.toArray_toList (xs := args), he]
    obtain ⟨d, hd, rfl⟩ := verd_open h1
    obtain ⟨d', hd', rfl⟩ := verd_open h2
    exact modeWorst_any d d' hd hd' W

theorem modeWorst_holds : Rows.ModeWorstSaid :=
  OpenClaim.holds_of_wide 5 Try.f5 rfl rfl rfl rfl rfl rfl rfl ⟨rfl, rfl, rfl, rfl, rfl⟩ rfl rfl rfl rfl rfl (by kernel_rfl) Try.func5 (by kernel_rfl)
    (of_decide_eq_true (by kernel_rfl)) (by unfold Func.isWrapper; rw [if_neg (of_decide_eq_false (by kernel_rfl))]; exact ⟨rfl, rfl⟩)
    (fun os started H enc _ => modeWorst_lifted os started H enc)
end Go.Proofs.Ytjpfnndfhbglgaa
