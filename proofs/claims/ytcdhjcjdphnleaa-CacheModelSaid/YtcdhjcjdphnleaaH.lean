import Derived.Test.YtcdhjcjdphnleaaG
namespace Go.Proofs.Ytcdhjcjdphnleaa
open Go Go.WideMaps Go.RowKit

set_option maxHeartbeats 4000000 in
theorem insert_first_room (w : World) (g cap vb : Nat) (cur : Array Value) (k : Key) (hg : Whole w g 41 cur) (hroom : 1 ≤ cap) (hcap : cap ≤ maxLen)
    (hcur : cur.size = cap * 3) (hv : Whole w vb 41 k.cells.toArray) :
    Calls Try.prog 41 #[.slice (some ⟨g, 0, none⟩) 0 cap, .int .i64 0, .slice (some ⟨vb, 0, none⟩) 1 1] w fun e w' =>
      e = .returned (.slice (some ⟨g, 0, none⟩) 1 cap) ∧ Sto w w' g ∧ Whole w' g 41 (splice cur 0 k.cells) := by
  unfold maxLen at hcap
  obtain ⟨i0, z0, hi0, hz0, hzs, hzb, hzc⟩ := infoOf info41
  obtain ⟨W1, hr, hs1, hw1⟩ : ∃ W1, (∀ ty, (Builtin.append_ #[26, 26] ty #[.slice (some ⟨g, 0, none⟩) 0 cap, .slice (some ⟨vb, 0, none⟩) 1 1]).run Try.prog w = .ok (.slice (some ⟨g, 0, none⟩) 1 cap) W1) ∧ Sto w W1 g ∧ Whole W1 g 41 (splice cur 0 k.cells) :=
    ⟨_, fun ty => by
      have h := run_append_room_src (w := w) 26 26 ty 41 i0 Try.underlying26 hi0 g 0 0 cap (.slice (some ⟨vb, 0, none⟩) 1 1) 1 k.cells
        (Src.ofSlice w Try.underlying26 _ _ _ _ (by rw [hzs]; rfl) (fun j v hj => by rw [Addr.add_lit, Nat.zero_add, hv.cell]; simpa using hj) (fun u hu => flat_one [k] u (by simpa [flat] using hu)))
        (by omega) (fun j hj => by rw [hg.cell, Array.getElem?_eq_getElem (by rw [cells_len] at hj; omega)]; rfl) (fun j hj => hg.frozen _)
      simpa only [Nat.zero_mul, Nat.zero_add] using h, setCells_blk k.cells 0 cur w hg⟩
  clear hg hv hcur hzs hzb hzc hi0 hz0
  go_enter Try.func41, Try.ntmps41
  go_wp2_with (at_builtin; refine Lib.wpList_append_run _ rfl _ _ _ _ rfl _ _ rfl rfl _ _ (hr _) ?_)
  go_ret
  exact ⟨rfl, hs1, hw1⟩

set_option maxHeartbeats 4000000 in
theorem insert_first_new (w : World) (vb : Nat) (k : Key) (hv : Whole w vb 41 k.cells.toArray) :
    Calls Try.prog 41 #[.slice none 0 0, .int .i64 0, .slice (some ⟨vb, 0, none⟩) 1 1] w fun e w' =>
      ∃ G cur', e = .returned (.slice (some ⟨w.heap.size, 0, none⟩) 1 G) ∧ 1 ≤ G ∧ G ≤ maxLen ∧ w.grownBy w' none ∧ Whole w' w.heap.size 41 cur' ∧ cur'.size = G * 3 ∧ cur'.toList.take 3 = k.cells := by
  obtain ⟨i0, z0, hi0, hz0, hzs, hzb, hzc⟩ := infoOf info41
  obtain ⟨N, hN⟩ : ∃ N, N = w.heap.size := ⟨_, rfl⟩
  obtain ⟨G, W0, ROW, hrz, hG1, hG2, hgr, hW0, hR, hT⟩ : ∃ G W0 ROW, (∀ ty, (Builtin.append_ #[26, 26] ty #[.slice none 0 0, .slice (some ⟨vb, 0, none⟩) 1 1]).run Try.prog w = .ok (.slice (some ⟨N, 0, none⟩) 1 G) W0) ∧
      1 ≤ G ∧ G ≤ maxLen ∧ w.grownBy W0 none ∧ Whole W0 N 41 ROW ∧ ROW.size = G * 3 ∧ ROW.toList.take 3 = k.cells := by
    have hsrc : Src Try.prog i0.size 26 (.slice (some ⟨vb, 0, none⟩) 1 1) 1 k.cells w :=
      Src.ofSlice w Try.underlying26 _ _ _ _ (by rw [hzs]; rfl) (fun j v hj => by rw [Addr.add_lit, Nat.zero_add, hv.cell]; simpa using hj) (fun u hu => flat_one [k] u (by simpa [flat] using hu))
    have h := fun ty => run_append_grow_src (w := w) 26 26 ty 41 i0 z0 Try.underlying26 hi0 hz0 none 0 0 [] (run_firstCells_none w.drew _ 0 0 0) (.slice (some ⟨vb, 0, none⟩) 1 1) 1 k.cells hsrc (by omega) (by omega)
        (by rw [hzb]; exact growslice_fits (by omega) (by omega))
    simp only [Nat.zero_add] at h
    refine ⟨_, _, _, fun ty => by rw [hN]; exact h ty, grownCap_ge w _ _ _, grownCap_le_maxLen w _ _ _ (by unfold maxLen; omega), undrew (World.grownBy_alloc w.drew _ none), by rw [hN]; exact Whole.new w.drew 41 _, ?_, ?_⟩
    · simp only [Array.size_append, List.size_toArray, size_zeroCells, hzc, List.length_append, List.length_nil, cells_len]
      have := grownCap_ge w 1 0 41
      omega
    · simp [Key.cells]
  have HN := Lib.hid hN
  clear hv hN hzs hzb hzc hi0 hz0
  have HT := Lib.hid hT
  clear hT
  go_enter Try.func41, Try.ntmps41
  go_wp2_with (at_builtin; refine Lib.wpList_append_run _ rfl _ _ _ _ rfl _ _ rfl rfl _ _ (hrz _) ?_)
  go_ret
  exact ⟨G, ROW, by rw [HN.out]; rfl, hG1, hG2, hgr, by rw [← HN.out]; exact hW0, hR, HT.out⟩

end Go.Proofs.Ytcdhjcjdphnleaa
