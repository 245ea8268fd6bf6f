import Derived.Test.YtcdhjcjdphnleaaE
import Derived.Shelf.Spec.SlicesInsertGrow
import Derived.WalkKit
import Derived.WalkSpells
import Derived.Handy
namespace Go.Proofs.Ytcdhjcjdphnleaa
open Go Go.WideMaps Go.RowKit

def Key.cells (k : Key) : List Value := [.int .i64 k.a, .int .i64 k.b, .int .i64 k.c]
def flat (ks : List Key) : List Value := ks.flatMap Key.cells
theorem cells_len (k : Key) : k.cells.length = 3 := rfl
theorem flat_len (ks : List Key) : (flat ks).length = ks.length * 3 := flat_length cells_len ks
theorem flat_one (ks : List Key) : ∀ u ∈ flat ks, u.oneCell' = true := by
  intro u hu
  obtain ⟨k, _, hk⟩ := List.mem_flatMap.1 hu
  simp [Key.cells] at hk
  rcases hk with rfl | rfl | rfl <;> rfl

theorem info41 : infoB (Try.prog.info? 41) 3 24 = true := by kernel_rfl
theorem sz41 : (Try.prog.info? 41).map (·.size) = some 3 := by
  obtain ⟨i, z, h1, _, h2, _, _⟩ := infoOf info41
  rw [h1]; simp [h2]
theorem sizeOf41 (w : World) : (Go.sizeOf 41).run Try.prog w = .ok 3 w := by kernel_rfl

theorem apart {w : World} {g vb lb cb : Nat} {cur ce : Array Value} (hg : Whole w g 41 cur) (hc : cur.size ≠ 0) (hv : Whole w vb 41 ce) (hne : vb ≠ g) :
    (callFunc 44 #[.slice (some ⟨vb, 0, none⟩) 1 1, .slice (some ⟨g, 3, none⟩) lb cb]).run Try.prog w = .ok (.value (.bool false)) w := by
  rw [run_callFunc_extern Try.func44 (by kernel_rfl) (by kernel_rfl) (by kernel_rfl) (e := Extern.SlicesOverlaps.overlaps #[26, 26] #[4]) (by kernel_rfl),
    Lib.run_overlaps_apart w 26 4 41 Try.underlying26 3 sizeOf41 ⟨vb, 0, none⟩ ⟨g, 3, none⟩ 1 1 lb cb hne 41 41 ce.size cur.size (by simp [World.shape?, show w.heap[vb]? = _ from hv]) (by simp [World.shape?, show w.heap[g]? = _ from hg]) hc (hv.frozen 0) (hv.frozen _)]
  rfl

set_option maxHeartbeats 4000000 in
theorem insert_shift (w : World) (g cap vb : Nat) (cur : Array Value) (ks : List Key) (k : Key) (hg : Whole w g 41 cur) (hn : 0 < ks.length) (hroom : ks.length + 1 ≤ cap) (hcap : cap ≤ maxLen)
    (hcur : cur.size = cap * 3) (hcs : cur.toList.take (ks.length * 3) = flat ks) (hv : Whole w vb 41 k.cells.toArray) (hne : vb ≠ g) :
    Calls Try.prog 41 #[.slice (some ⟨g, 0, none⟩) ks.length cap, .int .i64 0, .slice (some ⟨vb, 0, none⟩) 1 1] w fun e w' =>
      e = .returned (.slice (some ⟨g, 0, none⟩) (ks.length + 1) cap) ∧ Sto w.drew w' g ∧ Whole w' g 41 (splice (splice cur 3 (flat ks)) 0 k.cells) := by
  have hov : ∀ lb cb, _ := fun lb cb => apart (lb := lb) (cb := cb) hg (by omega) hv hne
  have hfl := flat_len ks
  unfold maxLen at hcap
  obtain ⟨n, hnn⟩ : ∃ n, n = ks.length := ⟨_, rfl⟩
  rw [← hnn] at hn hroom hcs hfl ⊢
  clear hnn
  have mixed : Try.prog.follows Departure.mixedOrders = true := by kernel_rfl
  have hz1 : ¬ ((0 : Int) = (n : Int)) := by omega
  have hwr : IntKind.i64.wrap 1 = 1 := by decide
  have hb1 : (1 : Int) ≤ (n : Int) + 1 := by omega
  have hb2 : ¬ (cap = 1) := by omega
  have hb3 : (0 : Int) ≤ (n : Int) + 1 := by omega
  have hb4 : ¬ (cap = 0) := by omega
  have hin : ∀ j, j < cap * 3 → (w.cell? ⟨g, j, none⟩).isSome = true := fun j hj => by rw [hg.cell, Array.getElem?_eq_getElem (by omega)]; rfl
  have hsrc : ∀ j v, (flat ks)[j]? = some v → w.cell? ⟨g, j, none⟩ = some v := fun j v hj => by
    have hjl : j < n * 3 := by have := (List.getElem?_eq_some_iff.1 hj).1; omega
    rw [← hcs, List.getElem?_take, if_pos hjl] at hj
    rw [hg.cell]; simpa using hj
  obtain ⟨W1, hcp1, hs1, hw1⟩ : ∃ W1, (∀ ty dc sc, (Builtin.copy_ #[26, 26] ty #[.slice (some ⟨g, 3, none⟩) n dc, .slice (some ⟨g, 0, none⟩) (n + 1) sc]).run Try.prog w.drew = .ok (goInt n) W1) ∧ Sto w.drew W1 g ∧ Whole W1 g 41 (splice cur 3 (flat ks)) :=
    ⟨_, fun ty dc sc => run_copy_k w.drew 26 26 ty 41 3 n g 3 n dc ⟨g, 0, none⟩ (n + 1) sc (flat ks) Try.underlying26 sz41 (by simp only [Nat.min_def]; split <;> omega) (by rw [hfl])
      (fun j v hj => by rw [Addr.add_lit, Nat.zero_add]; exact hsrc j v hj) (fun j hj => hin _ (by omega)) (fun j hj => hg.frozen _) (flat_one ks), setCells_blk (flat ks) 3 cur w.drew hg⟩
  have hv1 : Whole W1 vb 41 k.cells.toArray := hs1.whole hv hne
  obtain ⟨W2, hcp2, hs2, hw2⟩ : ∃ W2, (∀ ty dc, (Builtin.copy_ #[26, 26] ty #[.slice (some ⟨g, 0, none⟩) (n + 1) dc, .slice (some ⟨vb, 0, none⟩) 1 1]).run Try.prog W1 = .ok (goInt 1) W2) ∧ Sto W1 W2 g ∧ Whole W2 g 41 (splice (splice cur 3 (flat ks)) 0 k.cells) :=
    ⟨_, fun ty dc => run_copy_k W1 26 26 ty 41 3 1 g 0 (n + 1) dc ⟨vb, 0, none⟩ 1 1 k.cells Try.underlying26 sz41 (by simp only [Nat.min_def]; split <;> omega) (by rfl)
      (fun j v hj => by rw [Addr.add_lit, Nat.zero_add, hv1.cell]; simpa using hj)
      (fun j hj => by rw [hw1.cell, Array.getElem?_eq_getElem (by rw [splice_size]; rw [cells_len] at hj; omega)]; rfl) (fun j hj => hw1.frozen _) (fun u hu => flat_one [k] u (by simpa [flat] using hu)), setCells_blk k.cells 0 _ W1 hw1⟩
  clear hsrc hin hcs hfl hcur hv hv1 hg
  go_enter Try.func41, Try.ntmps41
  go_wp2_with (simp only [hov])
  go_region_law_o (refine step_copy_runI rfl _ _ 26 26 rfl _ _ (by simp [Act.eval, Act.put]) (by simp [Act.eval, Act.put]) (hcp1 _ _ _) ?_)
  go_wp2_with (at_builtin; refine wpList_copy_runI _ rfl _ _ 26 26 rfl _ _ rfl rfl (hcp2 _ _) ?_)
  go_ret
  exact ⟨rfl, hs1.trans hs2, hw2⟩

end Go.Proofs.Ytcdhjcjdphnleaa
