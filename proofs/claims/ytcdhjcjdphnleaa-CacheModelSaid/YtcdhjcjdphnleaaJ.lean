import Derived.Test.YtcdhjcjdphnleaaI
import Derived.BigQuiet
namespace Go.Proofs.Ytcdhjcjdphnleaa
open Go Go.WideMaps Go.RowKit

theorem key_cells {w : World} {g : Nat} {cur : Array Value} {ks : List Key} (hg : Whole w g 41 cur) (hcs : cur.toList.take (ks.length * 3) = flat ks) {i : Nat} {y : Key} (hy : ks[i]? = some y) :
    w.cell? ⟨g, i * 3, none⟩ = some (.int .i64 y.a) ∧ w.cell? ⟨g, i * 3 + 1, none⟩ = some (.int .i64 y.b) ∧ w.cell? ⟨g, i * 3 + 2, none⟩ = some (.int .i64 y.c) := by
  have hi : i < ks.length := (List.getElem?_eq_some_iff.1 hy).1
  have key : ∀ j, j < 3 → cur[i * 3 + j]? = y.cells[j]? := fun j hj => by
    rw [← flat_at (f := Key.cells) cells_len hy j hj, show ks.flatMap Key.cells = flat ks from rfl, ← hcs, List.getElem?_take, if_pos (by omega)]
    simp
  exact ⟨(hg.cell _).trans (key 0 (by omega)), (hg.cell _).trans (key 1 (by omega)), (hg.cell _).trans (key 2 (by omega))⟩

/-- The place of a key, -1 if there is none. -/
def place (ks : List Key) (k : Key) : Int := if k ∈ ks then (ks.idxOf k : Int) else -1

theorem place_at {ks : List Key} {k : Key} {n : Nat} (hn : ks[n]? = some k) (hpre : ∀ j, j < n → ks[j]? ≠ some k) : place ks k = n := by
  have hm : k ∈ ks := List.mem_of_getElem? hn
  have hlt : ks.idxOf k < ks.length := List.idxOf_lt_length_iff.2 hm
  have hat : ks[ks.idxOf k]? = some k := by rw [List.getElem?_eq_getElem hlt, List.getElem_idxOf hlt]
  unfold place
  rw [if_pos hm]
  have h1 : ¬ ks.idxOf k < n := fun h => hpre _ h hat
  have h2 : ¬ n < ks.idxOf k := fun h => by
    have := List.not_of_lt_findIdx (p := (· == k)) (xs := ks) (i := n) h
    have hnl : n < ks.length := (List.getElem?_eq_some_iff.1 hn).1
    have he : ks[n] = k := (List.getElem?_eq_some_iff.1 hn).2
    simp [he] at this
  omega

theorem place_none {ks : List Key} {k : Key} (h : ∀ j, j < ks.length → ks[j]? ≠ some k) : place ks k = -1 := by
  unfold place
  rw [if_neg]
  intro hm
  obtain ⟨j, hj⟩ := List.getElem?_of_mem hm
  exact h j (List.getElem?_eq_some_iff.1 hj).1 hj

end Go.Proofs.Ytcdhjcjdphnleaa
