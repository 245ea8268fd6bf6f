import Derived.Test.YtcdhjcjdphnleaaZA
/-
  append(row of one element, s...): the row stays, or a new one is made.
-/
namespace Go.Proofs.Ytcdhjcjdphnleaa
open Go Go.WideMaps Go.RowKit

/-- A slice's block is one of elements of this type. -/
def TyRow (w : World) (t : TypeId) (v : Value) : Prop := ∀ g, v.ownBlock = some g → ∃ cs, Whole w g t cs
theorem src_of {w : World} {P : Program} {t e : TypeId} {k n : Nat} {v : Value} {cs : List Value} (hu : P.underlying t = some (.slice e)) (h : SliceAt w v k n cs) : Src P k t v n cs w := by
  obtain ⟨h1, h2, h3, ⟨rfl, rfl⟩ | ⟨a, c, rfl, h4, h5⟩⟩ := h
  · obtain rfl : cs = [] := List.eq_nil_of_length_eq_zero (by simpa using h1)
    exact Src.ofNil w hu 0
  · exact Src.ofSlice w hu a n c cs h1 h5 h3

theorem append_one {P : Program} {t e : TypeId} {k b : Nat} (hu : P.underlying t = some (.slice e)) (hi : infoB (P.info? e) k b = true) (hb : b ≤ 64) (w : World) (g : Nat) (xs : List Value) (xv : Value) (n : Nat) (news : List Value)
    (hg : Whole w g e xs.toArray) (hx : xs.length = k) (h1 : ∀ u ∈ xs, u.oneCell' = true) (hs : SliceAt w xv k n news) (hbig : n ≤ 2000) :
    ∃ v' w', (∀ ty, (Builtin.append_ #[t, t] ty #[.slice (some ⟨g, 0, none⟩) 1 1, xv]).run P w = .ok v' w') ∧ SliceAt w' v' k (1 + n) (xs ++ news) ∧ (∀ b, v'.ownBlock = some b → b = g ∨ w.heap.size ≤ b) ∧ TyRow w' e v' ∧ Below w.heap.size w w' := by
  obtain ⟨i0, z0, hi0, hz0, hzs, hzb, hzc⟩ := infoOf hi
  have hsrc := src_of hu hs
  rw [← hzs] at hsrc
  have hnl := hs.1
  by_cases h0 : n = 0
  · subst h0
    obtain rfl : news = [] := List.eq_nil_of_length_eq_zero (by simpa using hnl)
    refine ⟨.slice (some ⟨g, 0, none⟩) 1 1, w, fun ty => ?_, ?_, fun b e => by cases e; exact .inl rfl, fun b he => by cases he; exact ⟨_, hg⟩, Below.refl _ _⟩
    · have h := run_append_room_src (w := w) t t ty e i0 hu hi0 g 0 1 1 xv 0 [] hsrc (by omega) (fun j hj => by simp at hj) (fun j hj => by simp at hj)
      have e : w.setCells g (0 + 1 * i0.size) [] = w := rfl
      rw [e] at h
      simpa using h
    · refine ⟨by simp [hx], by unfold maxLen; omega, by simpa using h1, .inr ⟨_, 1, rfl, Nat.le_refl _, fun j u hj => ?_⟩⟩
      rw [Addr.add_lit, Nat.zero_add, hg.cell]
      simpa using hj
  · have hold : (Builtin.firstCells i0.size 1 (.slice (some ⟨g, 0, none⟩) 1 1)).run P w.drew = .ok xs.toArray w.drew := by
      refine run_firstCells_some w.drew _ 1 _ _ _ xs (by rw [hzs]; omega) fun j u hj => ?_
      rw [Addr.add_lit, Nat.zero_add]
      exact (hg.cell j).trans (by simpa using hj)
    have hfit : Builtin.nextslicecap (1 + n) 1 * i0.bytes ≤ 281474976710656 := by
      rw [hzb]
      exact growslice_fits (by omega) (by
        have : (1 + n) * b ≤ 2001 * 64 := Nat.mul_le_mul (by omega) hb
        omega)
    have h := fun ty => run_append_grow_src (w := w) t t ty e i0 z0 hu hi0 hz0 (some ⟨g, 0, none⟩) 1 1 xs hold xv n news hsrc (by omega) (by omega) hfit
    refine ⟨_, _, h, ⟨?_, by unfold maxLen; omega, ?_, .inr ⟨_, _, rfl, grownCap_ge w _ _ _, fun j u hj => ?_⟩⟩, fun b e => by cases e; exact .inr (Nat.le_refl _), fun b he => by cases he; exact ⟨_, Whole.new _ _ _⟩, ((Below.refl _ w).drew).alloc (Nat.le_refl _) _⟩
    · rw [List.length_append, hx, hnl, Nat.add_mul, Nat.one_mul]
    · intro u hu'
      rcases List.mem_append.1 hu' with h2 | h2
      · exact h1 u h2
      · exact hs.2.2.1 u h2
    · rw [Addr.add_lit, Nat.zero_add]
      have hw := (Whole.new w.drew e ((xs ++ news).toArray ++ Builtin.zeroCells z0.cells (grownCap w (1 + n) 1 e - (1 + n)))).cell j
      refine hw.trans ?_
      have hj' : j < (xs ++ news).length := (List.getElem?_eq_some_iff.1 hj).1
      rw [Array.getElem?_append_left (by simpa using hj')]
      simpa using hj
end Go.Proofs.Ytcdhjcjdphnleaa
