import Derived.Test.YtmkfabdkadocdaaDoorQA
/-
  Arguments opened: entries, rules, policies, bytes.
-/
namespace Go.Proofs.YtmkfabdkadocdaaDoor
open Go.RowKit Go.ChangeShapes Go.WideShapes Go.ChangeAt

set_option maxRecDepth 100000 in
theorem entry_cells {w : World} {f : Nat} {cs : List Value} (h : Rd Tryd.prog w f 61 cs) : ∃ x : AEntry, cs = x.cells ∧ x.Ok := by
  obtain ⟨f', rfl, h⟩ := h.struct Tryd.underlying61
  obtain ⟨c0, _, rfl, -, r0, c1, _, rfl, -, r1, c2, _, rfl, -, r2, c3, _, rfl, -, r3, c4, _, rfl, -, r4, c5, _, rfl, -, r5, c6, _, rfl, -, r6, hn⟩ := h
  obtain rfl : _ = [] := hn
  obtain ⟨A, rfl, hA⟩ := r0.int Tryd.underlying3
  obtain ⟨B, rfl, hB⟩ := r1.int Tryd.underlying3
  obtain ⟨C, rfl, hC⟩ := r2.int Tryd.underlying3
  obtain ⟨D, rfl, hD⟩ := r3.int Tryd.underlying3
  obtain ⟨E, rfl, hE⟩ := r4.int Tryd.underlying25
  obtain ⟨F, rfl, hF⟩ := r5.int Tryd.underlying25
  obtain ⟨G, rfl, hG⟩ := r6.int Tryd.underlying25
  exact ⟨⟨A, B, C, D, E, F, G⟩, rfl, ⟨wf_i64 hA, wf_i64 hB, wf_i64 hC, wf_i64 hD⟩, ⟨wf_u32 hE, wf_u32 hF, wf_u32 hG⟩⟩
theorem all_ents {w : World} {f : Nat} : ∀ (es : List (List Value)), (∀ x ∈ es, x.length = Tryd.prog.cellsOf 61 ∧ Rd Tryd.prog w f 61 x) → ∃ l : List AEntry, es.flatten = l.flatMap AEntry.cells ∧ es.length = l.length ∧ ∀ o ∈ l, o.Ok
  | [], _ => ⟨[], rfl, rfl, fun _ h => by cases h⟩
  | x :: es, h => by
    obtain ⟨o, rfl, ho⟩ := entry_cells (h x (by simp)).2
    obtain ⟨l, h1, h2, h3⟩ := all_ents es fun y hy => h y (by simp [hy])
    refine ⟨o :: l, by simp [h1], by simp [h2], fun p hp => ?_⟩
    rcases List.mem_cons.1 hp with rfl | hp
    · exact ho
    · exact h3 p hp
theorem all_rules {w : World} {f : Nat} : ∀ (es : List (List Value)), (∀ x ∈ es, x.length = Tryd.prog.cellsOf 27 ∧ Rd Tryd.prog w f 27 x) → ∃ l : List ARule, es.flatten = l.flatMap ARule.cells ∧ es.length = l.length ∧ ∀ o ∈ l, o.Wf
  | [], _ => ⟨[], rfl, rfl, fun _ h => by cases h⟩
  | x :: es, h => by
    obtain ⟨o, rfl, ho⟩ := rule_cells (h x (by simp)).2
    obtain ⟨l, h1, h2, h3⟩ := all_rules es fun y hy => h y (by simp [hy])
    refine ⟨o :: l, by simp [h1], by simp [h2], fun p hp => ?_⟩
    rcases List.mem_cons.1 hp with rfl | hp
    · exact ho
    · exact h3 p hp
set_option maxRecDepth 100000 in
theorem ents_open {w : World} {v : Value} (h : Arg Tryd.prog w 52 v) : ∃ l : List AEntry, SliceAt w v 7 l.length (l.flatMap AEntry.cells) ∧ ∀ x ∈ l, x.Ok := by
  obtain ⟨f, cs, h, rfl⟩ := h
  rw [Tryd.underlying52]
  obtain ⟨f', v, rfl, rfl, es, h1, h2, _⟩ := h.slice Tryd.underlying52
  obtain ⟨l, e1, e2, e3⟩ := all_ents es h2
  refine ⟨l, ?_, e3⟩
  rw [e1, e2, show Tryd.prog.cellsOf 61 = 7 from by kernel_rfl] at h1
  exact h1
theorem rules_row {w : World} {f : Nat} {cs : List Value} (h : Rd Tryd.prog w f 41 cs) : ∃ v, cs = [v] ∧ ∃ l : List ARule, SliceAt w v 13 l.length (l.flatMap ARule.cells) ∧ ∀ r ∈ l, r.Wf := by
  obtain ⟨f', v, rfl, rfl, es, h1, h2, _⟩ := h.slice Tryd.underlying41
  obtain ⟨l, e1, e2, e3⟩ := all_rules es h2
  refine ⟨v, rfl, l, ?_, e3⟩
  rw [e1, e2, show Tryd.prog.cellsOf 27 = 13 from by kernel_rfl] at h1
  exact h1
theorem len_one {l : List Value} (h : l.length = 1) : ∃ x, l = [x] := by
  match l, h with
  | [x], _ => exact ⟨x, rfl⟩
set_option maxRecDepth 100000 in
theorem pol_open {w : World} {u : Value} (h : Arg Tryd.prog w 50 u) : ∃ a0 a1 a2 a3 a4 a5 a6 a7 a8 v a10 a11 a12 a13 a14 a15 a16 : Value, ∃ l : List ARule, u = .agg #[a0, a1, a2, a3, a4, a5, a6, a7, a8, v, a10, a11, a12, a13, a14, a15, a16] ∧ SliceAt w v 13 l.length (l.flatMap ARule.cells) ∧ ∀ r ∈ l, r.Wf := by
  obtain ⟨f, cs, h, rfl⟩ := h
  rw [Tryd.underlying50]
  obtain ⟨f', rfl, h⟩ := h.struct Tryd.underlying50
  obtain ⟨c0, _, rfl, l0, -, c1, _, rfl, l1, -, c2, _, rfl, l2, -, c3, _, rfl, l3, -, c4, _, rfl, l4, -, c5, _, rfl, l5, -, c6, _, rfl, l6, -, c7, _, rfl, l7, -, c8, _, rfl, l8, -, c9, _, rfl, l9, r9, c10, _, rfl, l10, -, c11, _, rfl, l11, -, c12, _, rfl, l12, -, c13, _, rfl, l13, -, c14, _, rfl, l14, -, c15, _, rfl, l15, -, c16, _, rfl, l16, -, hn⟩ := h
  obtain rfl : _ = [] := hn
  obtain ⟨a0, rfl⟩ := len_one (l0.trans (by kernel_rfl))
  obtain ⟨a1, rfl⟩ := len_one (l1.trans (by kernel_rfl))
  obtain ⟨a2, rfl⟩ := len_one (l2.trans (by kernel_rfl))
  obtain ⟨a3, rfl⟩ := len_one (l3.trans (by kernel_rfl))
  obtain ⟨a4, rfl⟩ := len_one (l4.trans (by kernel_rfl))
  obtain ⟨a5, rfl⟩ := len_one (l5.trans (by kernel_rfl))
  obtain ⟨a6, rfl⟩ := len_one (l6.trans (by kernel_rfl))
  obtain ⟨a7, rfl⟩ := len_one (l7.trans (by kernel_rfl))
  obtain ⟨a8, rfl⟩ := len_one (l8.trans (by kernel_rfl))
  obtain ⟨a10, rfl⟩ := len_one (l10.trans (by kernel_rfl))
  obtain ⟨a11, rfl⟩ := len_one (l11.trans (by kernel_rfl))
  obtain ⟨a12, rfl⟩ := len_one (l12.trans (by kernel_rfl))
  obtain ⟨a13, rfl⟩ := len_one (l13.trans (by kernel_rfl))
  obtain ⟨a14, rfl⟩ := len_one (l14.trans (by kernel_rfl))
  obtain ⟨a15, rfl⟩ := len_one (l15.trans (by kernel_rfl))
  obtain ⟨a16, rfl⟩ := len_one (l16.trans (by kernel_rfl))
  obtain ⟨v, rfl, l, h1, h2⟩ := rules_row r9
  exact ⟨a0, a1, a2, a3, a4, a5, a6, a7, a8, v, a10, a11, a12, a13, a14, a15, a16, l, rfl, h1, h2⟩
theorem wf_u8 {n : Int} (h : (Lit.int .u8 n).wf = true) : 0 ≤ n ∧ n ≤ 255 := by
  have a1 : IntKind.u8.min = 0 := by decide
  have a2 : IntKind.u8.max = 255 := by decide
  simp only [Lit.wf, a1, a2] at h
  simpa using h
set_option maxRecDepth 100000 in
theorem u8_open {w : World} {v : Value} (h : Arg Tryd.prog w 5 v) : ∃ k : Nat, v = .int .u8 (k : Int) ∧ k ≤ 255 := by
  obtain ⟨f, cs, h, rfl⟩ := h
  rw [Tryd.underlying5]
  obtain ⟨A, rfl, hA⟩ := h.int Tryd.underlying5
  have := wf_u8 hA
  exact ⟨A.toNat, by show Value.int .u8 A = _; congr 1; omega, by omega⟩
end Go.Proofs.YtmkfabdkadocdaaDoor
