import Derived.Test.YtlkkdpoliafjbaaA
import Derived.Maps.RangeWalk
namespace Go.Proofs.Ytlkkdpoliafjbaa
open Go Go.ChangeMaps Go.MapKept
open Go.Maps (Keyed)

/-- A range over a map under way: block b holds the entries D, block r is the iterator, 'left' is still to come. -/
def Ranging (w : World) (P : Program) (k : TypeId) (b r : Nat) (D left : List (Value × Value)) : Prop :=
  ∃ es clock since seen c0, w.heap[b]? = some (.map es clock) ∧ Stamped es clock ∧ (es.toList.map fun e => (e.key, e.val)).Perm D ∧ (∀ p ∈ D, ∃ l, keyOf P k p.1 = some l) ∧
    w.heap[r]? = some (.mapIter (some b) since seen c0) ∧ (∀ x ∈ es.toList, x.born < since) ∧ since ≤ c0 ∧ since ≤ clock ∧ ((leftOf es seen).toList.map fun e => (e.key, e.val)).Perm left

variable {P : Program} {k : TypeId} {w : World} {b r : Nat} {D left : List (Value × Value)}

theorem Ranging.map (h : Ranging w P k b r D left) : MapAt w P k b D := by
  obtain ⟨es, clock, _, _, _, h1, h2, h3, h4, _⟩ := h
  exact ⟨es, clock, h1, h2, h3, h4⟩

theorem Ranging.left_eq (h : Ranging w P k b r D left) : w.rangeLeft b r = left.length := by
  obtain ⟨es, clock, since, seen, c0, hb, _, _, _, hr, _, _, _, hl⟩ := h
  simp only [World.rangeLeft, hb, hr]
  simpa using hl.length_eq

theorem Ranging.ne (h : Ranging w P k b r D left) : r ≠ b := by
  obtain ⟨es, clock, since, seen, c0, hb, _, _, _, hr, _⟩ := h
  intro e
  rw [e, hb] at hr
  cases hr

theorem Ranging.lt (h : Ranging w P k b r D left) : r < w.heap.size := by
  obtain ⟨es, clock, since, seen, c0, _, _, _, _, hr, _⟩ := h
  exact (Array.getElem?_eq_some_iff.1 hr).1

theorem Ranging.kept {w' : World} (h : Ranging w P k b r D left) (hb : w'.heap[b]? = w.heap[b]?) (hr : w'.heap[r]? = w.heap[r]?) : Ranging w' P k b r D left := by
  obtain ⟨es, clock, since, seen, c0, h1, h2, h3, h4, h5, h6⟩ := h
  exact ⟨es, clock, since, seen, c0, hb.trans h1, h2, h3, h4, hr.trans h5, h6⟩

variable {t e : TypeId}

theorem MapAt.range (h : MapAt w P k b D) (ht : P.underlying t = some (.map k e)) :
    ∃ w', (Instr.range t (.map (some b))).run P w = .ok (.pointer (some ⟨w.heap.size, 0, none⟩)) w' ∧ Ranging w' P k b w.heap.size D D ∧ w.grownBy w' none ∧ w'.heap.size = w.heap.size + 1 := by
  have hlt := h.lt
  obtain ⟨es, clock, hb, hs, hp, hk⟩ := h
  refine ⟨_, run_range_map w t k e b es clock ht hb, ⟨es, clock, clock, #[], clock, ((MapKept.heap_alloc w _).2 b hlt).trans hb, hs, hp, hk, (MapKept.heap_alloc w _).1, hs.1, Nat.le_refl _, Nat.le_refl _, ?_⟩, World.grownBy_alloc w _ none, by simp⟩
  have : leftOf es #[] = es := by simp [leftOf]
  rw [this]
  exact hp

theorem strike_left : ∀ (l : List MapEntry) (p : MapEntry → Bool) (e : MapEntry), (l.map (·.born)).Nodup → e ∈ l → p e = true → (l.filter p).Perm (e :: l.filter fun x => p x && !(x.born == e.born))
  | [], _, _, _, h, _ => by cases h
  | x :: l, p, e, hn, he, hp => by
    simp only [List.map_cons, List.nodup_cons] at hn
    rcases List.mem_cons.1 he with rfl | he'
    · have h2 : l.filter p = l.filter fun x => p x && !(x.born == e.born) := by
        refine List.filter_congr (fun y hy => ?_)
        have : (y.born == e.born) = false := by
          simp only [beq_eq_false_iff_ne]
          intro hh
          exact hn.1 (List.mem_map.2 ⟨y, hy, hh⟩)
        simp [this]
      simp [hp, ← h2]
    · have hx : (x.born == e.born) = false := by
        simp only [beq_eq_false_iff_ne]
        intro hh
        exact hn.1 (List.mem_map.2 ⟨e, he', hh.symm⟩)
      have ih := strike_left l p e hn.2 he' hp
      simp only [List.filter_cons, hx, Bool.not_false, Bool.and_true]
      split
      · exact (ih.cons x).trans (List.Perm.swap _ _ _)
      · exact ih

/-- THE STEP. -/
theorem Ranging.next (h : Ranging w P k b r D left) (ty : TypeId) :
    (left = [] ∧ (Instr.next (.pointer (some ⟨r, 0, none⟩)) false ty).run P w = .ok (.tuple #[.bool false]) w) ∨
    ∃ key val left' w', left.Perm ((key, val) :: left') ∧ (Instr.next (.pointer (some ⟨r, 0, none⟩)) false ty).run P w = .ok (.tuple #[.bool true, key, val]) w' ∧
      Ranging w' P k b r D left' ∧ w.grownBy w' (some r) ∧ w'.heap.size = w.heap.size ∧ (Instr.entry (.pointer (some ⟨r, 0, none⟩))).run P w' = .ok (.tuple #[key, val]) w' := by
  have hne := h.ne
  obtain ⟨es, clock, since, seen, c0, hb, hs, hp, hk, hr, hold, hsc, hsk, hl⟩ := h
  have hst := (stamped_iff es clock).1 hs
  rcases run_next_at (P := P) w ty r b since c0 seen es clock hr hb hold hsc with ⟨h0, hrun⟩ | ⟨e, he, w1, hal, hrun⟩
  · refine Or.inl ⟨?_, hrun⟩
    have : left.length = 0 := by rw [← hl.length_eq]; simpa using h0
    exact List.eq_nil_of_length_eq_zero this
  · obtain ⟨hem, hes⟩ := mem_left he
    have hr1 : w1.heap[r]? = some (.mapIter (some b) since seen c0) := by rcases hal with rfl | rfl <;> exact hr
    have hb1 : w1.heap[b]? = some (.map es clock) := by rcases hal with rfl | rfl <;> exact hb
    have hset := heap_set (o' := .mapIter (some b) since (seen.push e.born) clock) hr1
    have hb' : (setBlock w1 r (.mapIter (some b) since (seen.push e.born) clock)).heap[b]? = some (.map es clock) := (hset.2 b (fun e1 => hne e1.symm)).trans hb1
    refine Or.inr ⟨e.key, e.val, (leftOf es (seen.push e.born)).toList.map fun e => (e.key, e.val), _, ?_, hrun, ⟨es, clock, since, seen.push e.born, clock, hb', hs, hp, hk, hset.1, hold, hsk, hsk, List.Perm.refl _⟩, ?_, ?_,
      run_entry_at _ r b since seen es clock e hset.1 hb' hem hst.2.1⟩
    · refine hl.symm.trans ?_
      have h1 := strike_left es.toList (fun e => !seen.contains e.born) e hst.2.1 hem (by simp only [hes]; rfl)
      have h2 : (leftOf es (seen.push e.born)).toList = es.toList.filter fun x => !seen.contains x.born && !(x.born == e.born) := by
        simp only [leftOf, Array.toList_filter]
        refine List.filter_congr (fun x _ => ?_)
        rw [contains_push]
        cases seen.contains x.born <;> cases (x.born == e.born) <;> rfl
      rw [h2]
      have h3 : (leftOf es seen).toList = es.toList.filter fun e => !seen.contains e.born := by simp only [leftOf, Array.toList_filter]
      rw [h3]
      exact h1.map (fun e => (e.key, e.val))
    · rcases hal with rfl | rfl <;> exact ⟨rfl, rfl, rfl, by simp [setBlock], fun i _ hi => hset.2 i (fun e1 => hi (by rw [e1]))⟩
    · rcases hal with rfl | rfl <;> simp [setBlock]

end Go.Proofs.Ytlkkdpoliafjbaa
