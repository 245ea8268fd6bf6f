import Derived.Test.YtlkkdpoliafjbaaPC
import Derived.Test.YtlkkdpoliafjbaaK
import Derived.Handy
/-
  The arguments opened: entries, booleans, questions.
-/
namespace Go.Proofs.Ytlkkdpoliafjbaa
open Go Go.RowKit Go.ChangeShapes Go.WideShapes Go.ChangeAt

theorem ownT : ownKnob Try.prog.godebug = none := by kernel_rfl
theorem laidT : laidOutB Try.prog = true := by kernel_rfl
theorem args_2 {P : Program} {w : World} {t u : TypeId} {vs : List Value} (h : Args P w [t, u] vs) : ∃ a b, vs = [a, b] ∧ Arg P w t a ∧ Arg P w u b := by
  match vs, h with
  | [a, b], ⟨h1, h2, _⟩ => exact ⟨a, b, rfl, h1, h2⟩
theorem args_3 {P : Program} {w : World} {t u s : TypeId} {vs : List Value} (h : Args P w [t, u, s] vs) : ∃ a b c, vs = [a, b, c] ∧ Arg P w t a ∧ Arg P w u b ∧ Arg P w s c := by
  match vs, h with
  | [a, b, c], ⟨h1, h2, h3, _⟩ => exact ⟨a, b, c, rfl, h1, h2, h3⟩
theorem wf_i64 {n : Int} (h : (Lit.int .i64 n).wf = true) : I64 n := by
  have a1 : IntKind.i64.min = -9223372036854775808 := by decide
  have a2 : IntKind.i64.max = 9223372036854775807 := by decide
  simp only [Lit.wf, a1, a2] at h
  have h' : -9223372036854775808 ≤ n ∧ n ≤ 9223372036854775807 := by simpa using h
  exact ⟨h'.1, by omega⟩
theorem wf_u32 {n : Int} (h : (Lit.int .u32 n).wf = true) : U32 n := by
  have a1 : IntKind.u32.min = 0 := by decide
  have a2 : IntKind.u32.max = 4294967295 := by decide
  simp only [Lit.wf, a1, a2] at h
  have h' : 0 ≤ n ∧ n ≤ 4294967295 := by simpa using h
  exact ⟨h'.1, by omega⟩
set_option maxRecDepth 100000 in
theorem entry_cells {w : World} {f : Nat} {cs : List Value} (h : Rd Try.prog w f 37 cs) : ∃ x : AEntry, cs = x.cells ∧ x.Ok := by
  obtain ⟨f', rfl, h⟩ := h.struct Try.underlying37
  obtain ⟨c0, _, rfl, -, r0, c1, _, rfl, -, r1, c2, _, rfl, -, r2, c3, _, rfl, -, r3, c4, _, rfl, -, r4, c5, _, rfl, -, r5, c6, _, rfl, -, r6, hn⟩ := h
  obtain rfl : _ = [] := hn
  obtain ⟨A, rfl, hA⟩ := r0.int Try.underlying3
  obtain ⟨B, rfl, hB⟩ := r1.int Try.underlying3
  obtain ⟨C, rfl, hC⟩ := r2.int Try.underlying3
  obtain ⟨D, rfl, hD⟩ := r3.int Try.underlying3
  obtain ⟨E, rfl, hE⟩ := r4.int Try.underlying35
  obtain ⟨F, rfl, hF⟩ := r5.int Try.underlying35
  obtain ⟨G, rfl, hG⟩ := r6.int Try.underlying35
  exact ⟨⟨A, B, C, D, E, F, G⟩, rfl, ⟨wf_i64 hA, wf_i64 hB, wf_i64 hC, wf_i64 hD⟩, ⟨wf_u32 hE, wf_u32 hF, wf_u32 hG⟩⟩
set_option maxRecDepth 100000 in
theorem quest_cells {w : World} {f : Nat} {cs : List Value} (h : Rd Try.prog w f 48 cs) : ∃ x : Quest, cs = x.cells ∧ x.Ok := by
  obtain ⟨f', rfl, h⟩ := h.struct Try.underlying48
  obtain ⟨c0, _, rfl, -, r0, c1, _, rfl, -, r1, c2, _, rfl, -, r2, c3, _, rfl, -, r3, hn⟩ := h
  obtain rfl : _ = [] := hn
  obtain ⟨A, rfl, hA⟩ := r0.int Try.underlying3
  obtain ⟨B, rfl, hB⟩ := r1.int Try.underlying3
  obtain ⟨C, rfl, hC⟩ := r2.int Try.underlying3
  obtain ⟨E, rfl, hE⟩ := r3.int Try.underlying35
  exact ⟨⟨A, B, C, E⟩, rfl, ⟨wf_i64 hA, wf_i64 hB, wf_i64 hC⟩⟩
def bcell (b : Bool) : List Value := [aBool b]
theorem bool_cells {w : World} {f : Nat} {cs : List Value} (h : Rd Try.prog w f 4 cs) : ∃ x : Bool, cs = bcell x ∧ True := by
  obtain ⟨b, rfl⟩ := h.bool Try.underlying4
  exact ⟨b, rfl, trivial⟩
theorem all_entry {w : World} {f : Nat} : ∀ (es : List (List Value)), (∀ x ∈ es, x.length = Try.prog.cellsOf 37 ∧ Rd Try.prog w f 37 x) → ∃ l : List AEntry, es.flatten = l.flatMap AEntry.cells ∧ es.length = l.length ∧ ∀ o ∈ l, o.Ok
  | [], _ => ⟨[], rfl, rfl, fun _ h => by cases h⟩
  | x :: es, h => by
    obtain ⟨o, rfl, ho⟩ := entry_cells (h x (by simp)).2
    obtain ⟨l, h1, h2, h3⟩ := all_entry es fun y hy => h y (by simp [hy])
    refine ⟨o :: l, by simp [h1], by simp [h2], fun p hp => ?_⟩
    rcases List.mem_cons.1 hp with rfl | hp
    · exact ho
    · exact h3 p hp
theorem all_quest {w : World} {f : Nat} : ∀ (es : List (List Value)), (∀ x ∈ es, x.length = Try.prog.cellsOf 48 ∧ Rd Try.prog w f 48 x) → ∃ l : List Quest, es.flatten = l.flatMap Quest.cells ∧ es.length = l.length ∧ ∀ o ∈ l, o.Ok
  | [], _ => ⟨[], rfl, rfl, fun _ h => by cases h⟩
  | x :: es, h => by
    obtain ⟨o, rfl, ho⟩ := quest_cells (h x (by simp)).2
    obtain ⟨l, h1, h2, h3⟩ := all_quest es fun y hy => h y (by simp [hy])
    refine ⟨o :: l, by simp [h1], by simp [h2], fun p hp => ?_⟩
    rcases List.mem_cons.1 hp with rfl | hp
    · exact ho
    · exact h3 p hp
theorem all_bool {w : World} {f : Nat} : ∀ (es : List (List Value)), (∀ x ∈ es, x.length = Try.prog.cellsOf 4 ∧ Rd Try.prog w f 4 x) → ∃ l : List Bool, es.flatten = l.flatMap bcell ∧ es.length = l.length ∧ ∀ o ∈ l, (fun _ : Bool => True) o
  | [], _ => ⟨[], rfl, rfl, fun _ h => by cases h⟩
  | x :: es, h => by
    obtain ⟨o, rfl, ho⟩ := bool_cells (h x (by simp)).2
    obtain ⟨l, h1, h2, h3⟩ := all_bool es fun y hy => h y (by simp [hy])
    refine ⟨o :: l, by simp [h1], by simp [h2], fun p hp => ?_⟩
    rcases List.mem_cons.1 hp with rfl | hp
    · exact ho
    · exact h3 p hp
set_option maxRecDepth 100000 in
theorem entrys_open {w : World} {v : Value} (h : Arg Try.prog w 22 v) : ∃ l : List AEntry, SliceAt w v 7 l.length (l.flatMap AEntry.cells) ∧ ∀ o ∈ l, o.Ok := by
  obtain ⟨f, cs, h, rfl⟩ := h
  rw [Try.underlying22]
  obtain ⟨f', v, rfl, rfl, es, h1, h2, _⟩ := h.slice Try.underlying22
  obtain ⟨l, e1, e2, e3⟩ := all_entry es h2
  refine ⟨l, ?_, e3⟩
  rw [e1, e2, show Try.prog.cellsOf 37 = 7 from by kernel_rfl] at h1
  exact h1
set_option maxRecDepth 100000 in
theorem quests_open {w : World} {v : Value} (h : Arg Try.prog w 24 v) : ∃ l : List Quest, SliceAt w v 4 l.length (l.flatMap Quest.cells) ∧ ∀ o ∈ l, o.Ok := by
  obtain ⟨f, cs, h, rfl⟩ := h
  rw [Try.underlying24]
  obtain ⟨f', v, rfl, rfl, es, h1, h2, _⟩ := h.slice Try.underlying24
  obtain ⟨l, e1, e2, e3⟩ := all_quest es h2
  refine ⟨l, ?_, e3⟩
  rw [e1, e2, show Try.prog.cellsOf 48 = 4 from by kernel_rfl] at h1
  exact h1
set_option maxRecDepth 100000 in
theorem bools_open' {w : World} {v : Value} (h : Arg Try.prog w 23 v) : ∃ l : List Bool, SliceAt w v 1 l.length (l.flatMap bcell) ∧ ∀ o ∈ l, (fun _ : Bool => True) o := by
  obtain ⟨f, cs, h, rfl⟩ := h
  rw [Try.underlying23]
  obtain ⟨f', v, rfl, rfl, es, h1, h2, _⟩ := h.slice Try.underlying23
  obtain ⟨l, e1, e2, e3⟩ := all_bool es h2
  refine ⟨l, ?_, e3⟩
  rw [e1, e2, show Try.prog.cellsOf 4 = 1 from by kernel_rfl] at h1
  exact h1
theorem bools_flat : ∀ (l : List Bool), l.flatMap bcell = l.map aBool
  | [] => rfl
  | x :: l => by rw [List.flatMap_cons, List.map_cons, bools_flat l]; rfl
theorem bools_open {w : World} {v : Value} (h : Arg Try.prog w 23 v) : ∃ l : List Bool, SliceAt w v 1 l.length (l.map aBool) := by
  obtain ⟨l, h1, -⟩ := bools_open' h
  rw [bools_flat] at h1
  exact ⟨l, h1⟩
set_option maxRecDepth 100000 in
theorem quest_open {w : World} {v : Value} (h : Arg Try.prog w 48 v) : ∃ o : Quest, v = .agg o.cells.toArray ∧ o.Ok := by
  obtain ⟨f, cs, h, rfl⟩ := h
  rw [Try.underlying48]
  obtain ⟨o, rfl, ho⟩ := quest_cells h
  exact ⟨o, rfl, ho⟩
end Go.Proofs.Ytlkkdpoliafjbaa
