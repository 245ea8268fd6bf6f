import Derived.Test.YtcdhjcjdphnleaaYB
import Derived.Test.YtcdhjcjdphnleaaK
import Derived.Handy
/-
  The arguments opened: an operation, a list of operations, numbers.
-/
namespace Go.Proofs.Ytcdhjcjdphnleaa
open Go Go.RowKit Go.ChangeShapes Go.WideShapes Go.ChangeAt

theorem ownT : ownKnob Try.prog.godebug = none := by kernel_rfl
theorem laidT : laidOutB Try.prog = true := by kernel_rfl
theorem args_2 {P : Program} {w : World} {t u : TypeId} {vs : List Value} (h : Args P w [t, u] vs) : ∃ a b, vs = [a, b] ∧ Arg P w t a ∧ Arg P w u b := by
  match vs, h with
  | [a, b], ⟨h1, h2, _⟩ => exact ⟨a, b, rfl, h1, h2⟩
theorem args_3 {P : Program} {w : World} {t u s : TypeId} {vs : List Value} (h : Args P w [t, u, s] vs) : ∃ a b c, vs = [a, b, c] ∧ Arg P w t a ∧ Arg P w u b ∧ Arg P w s c := by
  match vs, h with
  | [a, b, c], ⟨h1, h2, h3, _⟩ => exact ⟨a, b, c, rfl, h1, h2, h3⟩

theorem u8_wf {n : Int} (h : (Lit.int .u8 n).wf = true) : 0 ≤ n ∧ n ≤ 255 := by
  have a1 : IntKind.u8.min = 0 := by decide
  have a2 : IntKind.u8.max = 255 := by decide
  simp only [Lit.wf, a1, a2] at h
  simpa using h
theorem i64_wf {n : Int} (h : (Lit.int .i64 n).wf = true) : -9223372036854775808 ≤ n ∧ n ≤ 9223372036854775807 := by
  have a1 : IntKind.i64.min = -9223372036854775808 := by decide
  have a2 : IntKind.i64.max = 9223372036854775807 := by decide
  simp only [Lit.wf, a1, a2] at h
  simpa using h

set_option maxRecDepth 100000 in
theorem op_cells {w : World} {f : Nat} {cs : List Value} (h : Rd Try.prog w f 35 cs) : ∃ o : Opn, cs = o.cells ∧ o.Wf := by
  obtain ⟨f', rfl, h⟩ := h.struct Try.underlying35
  obtain ⟨c0, _, rfl, -, r0, c1, _, rfl, -, r1, c2, _, rfl, -, r2, c3, _, rfl, -, r3, c4, _, rfl, -, r4, c5, _, rfl, -, r5, hn⟩ := h
  obtain rfl : _ = [] := hn
  obtain ⟨A, rfl, hA⟩ := r0.int Try.underlying5
  obtain ⟨B, rfl, hB⟩ := r1.int Try.underlying3
  obtain ⟨C, rfl, hC⟩ := r2.int Try.underlying3
  obtain ⟨D, rfl, hD⟩ := r3.int Try.underlying3
  obtain ⟨E, rfl, _⟩ := r4.int Try.underlying33
  obtain ⟨G, rfl, _⟩ := r5.int Try.underlying3
  exact ⟨⟨A, B, C, D, E, G⟩, rfl, u8_wf hA, hB, hC, hD⟩
theorem op_open {w : World} {v : Value} (h : Arg Try.prog w 35 v) : ∃ o : Opn, v = .agg o.cells.toArray ∧ o.Wf := by
  obtain ⟨f, cs, h, rfl⟩ := h
  rw [Try.underlying35]
  obtain ⟨o, rfl, ho⟩ := op_cells h
  exact ⟨o, rfl, ho⟩
theorem int_open {w : World} {v : Value} (h : Arg Try.prog w 3 v) : ∃ n : Int, v = .int .i64 n ∧ -9223372036854775808 ≤ n ∧ n ≤ 9223372036854775807 := by
  obtain ⟨f, cs, h, rfl⟩ := h
  rw [Try.underlying3]
  obtain ⟨A, rfl, hA⟩ := h.int Try.underlying3
  exact ⟨A, rfl, i64_wf hA⟩
theorem u8_open {w : World} {v : Value} (h : Arg Try.prog w 5 v) : ∃ n : Int, v = .int .u8 n ∧ 0 ≤ n ∧ n ≤ 255 := by
  obtain ⟨f, cs, h, rfl⟩ := h
  rw [Try.underlying5]
  obtain ⟨A, rfl, hA⟩ := h.int Try.underlying5
  exact ⟨A, rfl, u8_wf hA⟩
theorem bool_open {w : World} {v : Value} (h : Arg Try.prog w 4 v) : ∃ b : Bool, v = .bool b := by
  obtain ⟨f, cs, h, rfl⟩ := h
  rw [Try.underlying4]
  obtain ⟨b, rfl⟩ := h.bool Try.underlying4
  exact ⟨b, rfl⟩
theorem all_ops {w : World} {f : Nat} : ∀ (es : List (List Value)), (∀ x ∈ es, x.length = Try.prog.cellsOf 35 ∧ Rd Try.prog w f 35 x) → ∃ l : List Opn, es.flatten = l.flatMap Opn.cells ∧ es.length = l.length ∧ ∀ o ∈ l, o.Wf
  | [], _ => ⟨[], rfl, rfl, fun _ h => by cases h⟩
  | x :: es, h => by
    obtain ⟨o, rfl, ho⟩ := op_cells (h x (by simp)).2
    obtain ⟨l, h1, h2, h3⟩ := all_ops es fun y hy => h y (by simp [hy])
    refine ⟨o :: l, by simp [h1], by simp [h2], fun p hp => ?_⟩
    rcases List.mem_cons.1 hp with rfl | hp
    · exact ho
    · exact h3 p hp
theorem ops_open {w : World} {v : Value} (h : Arg Try.prog w 22 v) : ∃ l : List Opn, OpsAt w v l ∧ ∀ o ∈ l, o.Wf := by
  obtain ⟨f, cs, h, rfl⟩ := h
  rw [Try.underlying22]
  obtain ⟨f', v, rfl, rfl, es, h1, h2, _⟩ := h.slice Try.underlying22
  obtain ⟨l, e1, e2, e3⟩ := all_ops es h2
  refine ⟨l, ?_, e3⟩
  rw [e1, e2, show Try.prog.cellsOf 35 = 6 from by kernel_rfl] at h1
  exact h1

end Go.Proofs.Ytcdhjcjdphnleaa
