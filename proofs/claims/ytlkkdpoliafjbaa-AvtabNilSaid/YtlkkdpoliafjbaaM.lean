import Derived.Test.YtlkkdpoliafjbaaL
/-
  OWNED ROWS, MORE: what is kept, what is apart, a part of an element written.
-/
namespace Go.Proofs.Ytlkkdpoliafjbaa
open Go.RowKit

theorem own_keep {w w' : World} {B base : Nat} {e : TypeId} {size n : Nat} {v : Value} {xs : List Value} (hb : Below B w w') (h : w.ownsRow base e size v n xs) (hB : w.heap.size ≤ B) : w'.ownsRow base e size v n xs :=
  ⟨h.1, h.2.imp id fun ⟨g, cap, cur, hv, hg, hh, r⟩ => ⟨g, cap, cur, hv, hg, (hb.block g (Nat.lt_of_lt_of_le (Array.getElem?_eq_some_iff.1 hh).1 hB)).trans hh, r⟩⟩

theorem own_far {w : World} {base g : Nat} {e : TypeId} {size n : Nat} {v : Value} {xs : List Value} (h : w.ownsRow base e size v n xs) (hg : g < base) : v.ownBlock ≠ some g := fun e => absurd (h.lt g e).1 (Nat.not_le.2 hg)

theorem flatten_splice {k : Nat} {xs : List (List Value)} (hx : ∀ x ∈ xs, x.length = k) {i : Nat} {x : List Value} (hi : xs[i]? = some x) {o : Nat} {l : List Value} (ho : o + l.length ≤ k) :
    (xs.set i (x.take o ++ l ++ x.drop (o + l.length))).flatten = xs.flatten.take (i * k + o) ++ l ++ xs.flatten.drop (i * k + o + l.length) := by
  induction xs generalizing i with
  | nil => simp at hi
  | cons y xs ih =>
    have hy := hx y (by simp)
    cases i with
    | zero =>
      simp at hi
      subst hi
      rw [List.set_cons_zero, List.flatten_cons, List.flatten_cons, Nat.zero_mul, Nat.zero_add, List.take_append_of_le_length (by omega), List.drop_append_of_le_length (by omega)]
      simp [List.append_assoc]
    | succ i =>
      rw [List.set_cons_succ, List.flatten_cons, ih (fun y hy => hx y (by simp [hy])) (by simpa using hi), List.flatten_cons]
      rw [Nat.add_mul, Nat.one_mul, List.take_append, List.drop_append, List.take_of_length_le (l := y) (by omega), List.drop_of_length_le (l := y) (by omega)]
      rw [show i * k + k + o - y.length = i * k + o by omega, show i * k + k + o + l.length - y.length = i * k + o + l.length by omega]
      simp [List.append_assoc]

theorem own_splice {w' : World} {base g : Nat} {e : TypeId} {k n cap : Nat} {xs : List (List Value)} {cur : Array Value} (hx : ∀ x ∈ xs, x.length = k) (hn : xs.length = n)
    (hg : base ≤ g) (hnc : n ≤ cap) (hcm : cap ≤ maxLen) (hcs : cur.size = cap * k) (ht : cur.toList.take (n * k) = xs.flatten) {i : Nat} {x : List Value} (hi : xs[i]? = some x) {o : Nat} {l : List Value} (ho : o + l.length ≤ k)
    (hw : Whole w' g e (splice cur (i * k + o) l)) : w'.ownsRow base e k (.slice (some ⟨g, 0, none⟩) n cap) n (xs.set i (x.take o ++ l ++ x.drop (o + l.length))).flatten := by
  have hin : i < n := by rw [← hn]; exact (List.getElem?_eq_some_iff.1 hi).1
  have hxk := hx x (List.mem_of_getElem? hi)
  have hfit : i * k + k ≤ n * k := by rw [← Nat.succ_mul]; exact Nat.mul_le_mul_right _ hin
  have hfit2 : n * k ≤ cap * k := Nat.mul_le_mul_right _ hnc
  refine ⟨?_, .inr ⟨g, cap, _, rfl, hg, hw, hnc, hcm, by rw [splice_size, hcs], ?_⟩⟩
  · rw [flatten_len (k := k), List.length_set, hn]
    intro y h
    rcases List.mem_or_eq_of_mem_set h with h | rfl
    · exact hx y h
    · simp only [List.length_append, List.length_take, List.length_drop]; omega
  · rw [splice_toList _ _ _ (by omega), flatten_splice hx hi ho, ← ht]
    rw [List.take_append, List.take_append, List.length_append, List.length_take, Array.length_toList, List.take_take, List.take_take]
    rw [Nat.min_eq_left (by omega : i * k + o ≤ cur.size), Nat.min_eq_right (by omega : i * k + o ≤ n * k), Nat.min_eq_left (by omega : i * k + o ≤ n * k)]
    rw [List.take_of_length_le (l := l) (by omega), List.drop_take]

theorem own_blk_far {w : World} {base g : Nat} {e t : TypeId} {size n : Nat} {v : Value} {xs : List Value} {cs : Array Value} (h : w.ownsRow base e size v n xs) (hg : Whole w g t cs) (hne : e ≠ t) : v.ownBlock ≠ some g := by
  rcases h.2 with ⟨rfl, _⟩ | ⟨g', cap, cur, rfl, _, hh, _⟩
  · simp [Value.ownBlock]
  · intro he
    have hgg : g' = g := by simpa [Value.ownBlock] using he
    subst hgg
    unfold Whole at hg
    rw [hh] at hg
    simp only [Option.some.injEq, Obj.cells.injEq] at hg
    exact hne hg.2.1

/-- The cells of the k-th row of a block. -/
theorem row_cell {w : World} {g : Nat} {e : TypeId} {cur : Array Value} {k n : Nat} {xs : List (List Value)} (hW : Whole w g e cur) (hx : ∀ x ∈ xs, x.length = k) (ht : cur.toList.take (n * k) = xs.flatten)
    {i : Nat} {x : List Value} (hi : xs[i]? = some x) (j : Nat) (u : Value) (hu : x[j]? = some u) : w.cell? ⟨g, i * k + j, none⟩ = some u := by
  rw [hW.cell]
  have hj : j < k := by rw [← hx x (List.mem_of_getElem? hi)]; exact (List.getElem?_eq_some_iff.1 hu).1
  have h1 := flatten_row hx hi j hj
  rw [hu, ← ht, List.getElem?_take] at h1
  split at h1
  · simpa using h1
  · cases h1
end Go.Proofs.Ytlkkdpoliafjbaa
