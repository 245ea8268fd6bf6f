/-
  OctetSums returns true for every input, and leaves the arguments as they were. No conditions.
-/
import Derived.Test.YtibikehfeobikaaJ
import Derived.Handy
namespace Go.Proofs.Ytibikehfeobikaa
open Go.RowKit Go.ChangeShapes Go.WideShapes Go.ChangeAt

theorem ownT : ownKnob Try.prog.godebug = none := by kernel_rfl
theorem laidT : laidOutB Try.prog = true := by kernel_rfl
theorem args_1 {P : Program} {w : World} {t : TypeId} {vs : List Value} (h : Args P w [t] vs) : ∃ a, vs = [a] ∧ Arg P w t a := by
  match vs, h with
  | [a], ⟨h1, _⟩ => exact ⟨a, rfl, h1⟩
theorem args_2 {P : Program} {w : World} {t u : TypeId} {vs : List Value} (h : Args P w [t, u] vs) : ∃ a b, vs = [a, b] ∧ Arg P w t a ∧ Arg P w u b := by
  match vs, h with
  | [a, b], ⟨h1, h2, _⟩ => exact ⟨a, b, rfl, h1, h2⟩

set_option maxRecDepth 100000 in
theorem octetSums_lifted (os : Os) (started : os.Started) (H : Type) (enc : TypeId × Value → H) :
    ReturnsInHanded {} Try.checked os 3 .any (Rows.octetSumsSpec.pre6 enc Try.prog Try.f3 Rows.octetSumsRow.domain false) (Rows.octetSumsSpec.post enc Try.prog Try.f3 false true false false) := by
  refine law_lifted (C := Try.checked) ownT laidT started (by kernel_rfl) Try.func3 rfl 4 (by kernel_rfl) Try.underlying4 (by kernel_rfl) ?_
    (ChangeSpec.witness6 (enc := enc) (C := Try.checked) false ⟨#[], #[.slice none 0 0], []⟩ 8 (by kernel_rfl) (by kernel_rfl) (by kernel_rfl) (by kernel_rfl)) ?_
  · intro ds hd
    rw [Try.params3] at hd
    match ds, hd with
    | [a], _ => rfl
  · intro W args hA
    have hA' : Args Try.prog W Try.f3.params.toList args.toList := hA
    rw [Try.params3] at hA'
    obtain ⟨a, he, h1⟩ := args_1 hA'
    obtain rfl : args = #[a] := by rw [← Array.toArray_toList (xs := args), he]
    obtain ⟨l, hl⟩ := bytes_open h1
    exact octetSums_any a l W hl

theorem octetSums_holds : Rows.OctetSumsSaid :=
  OpenClaim.holds_of_wide 3 Try.f3 rfl rfl rfl rfl rfl rfl rfl ⟨rfl, rfl, rfl, rfl, rfl⟩ rfl rfl rfl rfl rfl (by kernel_rfl) Try.func3 (by kernel_rfl)
    (of_decide_eq_true (by kernel_rfl)) (by unfold Func.isWrapper; rw [if_neg (of_decide_eq_false (by kernel_rfl))]; exact ⟨rfl, rfl⟩)
    (fun os started H enc _ => octetSums_lifted os started H enc)

end Go.Proofs.Ytibikehfeobikaa
