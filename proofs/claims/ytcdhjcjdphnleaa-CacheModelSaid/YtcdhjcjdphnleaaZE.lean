import Derived.Test.YtcdhjcjdphnleaaZD
/-
  append onto an own row (nil too), any slice (nil too).
-/
namespace Go.Proofs.Ytcdhjcjdphnleaa
open Go Go.WideMaps Go.RowKit

theorem append_more {P : Program} {t e : TypeId} {k b : Nat} (ty : TypeId) (hu : P.underlying t = some (.slice e)) (hi : infoB (P.info? e) k b = true) (hk : 0 < k) (hb : b ≤ 64) (w : World) (base : Nat) (v : Value) (n : Nat) (xs : List Value)
    (hown : w.ownsRow base e k v n xs) (xv : Value) (m : Nat) (news : List Value) (hs : SliceAt w xv k m news) (hbig : n + m ≤ 4000) (hbase : base ≤ w.heap.size) :
    ∃ v' w', (Builtin.append_ #[t, t] ty #[v, xv]).run P w = .ok v' w' ∧ w'.ownsRow base e k v' (n + m) (xs ++ news) ∧ w.grownBy w' v.ownBlock := by
  obtain ⟨i0, z0, hi0, hz0, hzs, hzb, hzc⟩ := infoOf hi
  obtain ⟨h1, h2, h3, ⟨rfl, rfl⟩ | ⟨a, c, rfl, h4, h5⟩⟩ := hs
  · obtain rfl : news = [] := List.eq_nil_of_length_eq_zero (by simpa using h1)
    refine ⟨v, w, run_append_owned_none w base t ty e i0 k hu hi0 v n xs hown, by simpa using hown, ⟨rfl, rfl, rfl, Nat.le_refl _, fun _ _ _ => rfl⟩⟩
  · obtain ⟨v', w', r1, r2, r3, -⟩ := run_append_own w base t ty e i0 z0 k b hu hi0 hz0 hzs hzb hzc hk v n xs hown a m c news h1 h5 h3 (by unfold maxLen; omega) (by
      have : (n + m) * b ≤ 4000 * 64 := Nat.mul_le_mul hbig hb
      omega) hbase
    exact ⟨v', w', r1, r2, r3⟩
theorem row_shape {w : World} {base : Nat} {e : TypeId} {k n : Nat} {v : Value} {xs : List Value} (h : w.ownsRow base e k v n xs) : ∃ a m c, v = .slice a m c := by
  rcases h.2 with ⟨rfl, _⟩ | ⟨g, cap, cur, rfl, _⟩
  · exact ⟨_, _, _, rfl⟩
  · exact ⟨_, _, _, rfl⟩
/-- A slice cut in front. -/
theorem SliceAt.front {w : World} {a : Addr} {k n c i : Nat} {cs : List Value} (h : SliceAt w (.slice (some a) n c) k n cs) (hi : i ≤ n) : SliceAt w (.slice (some a) i c) k i (cs.take (i * k)) := by
  obtain ⟨h1, h2, h3, ⟨h4, h5⟩ | ⟨a', c', h4, h5, h6⟩⟩ := h
  · cases h4
  · cases h4
    refine ⟨?_, by omega, fun u hu => h3 u (List.mem_of_mem_take hu), .inr ⟨a, c, rfl, by omega, fun j u hj => ?_⟩⟩
    · rw [List.length_take, h1]
      exact Nat.min_eq_left (Nat.mul_le_mul_right k hi)
    · rw [List.getElem?_take] at hj
      split at hj
      · exact h6 j u hj
      · cases hj
end Go.Proofs.Ytcdhjcjdphnleaa
