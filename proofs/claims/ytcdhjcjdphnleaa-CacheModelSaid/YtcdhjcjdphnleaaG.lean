import Derived.Test.YtcdhjcjdphnleaaF
import Derived.Lib.Hide
namespace Go.Proofs.Ytcdhjcjdphnleaa
open Go Go.WideMaps Go.RowKit

theorem undrew {w w' : World} {row : Option Nat} (h : w.drew.grownBy w' row) : w.grownBy w' row := ⟨h.os, h.tape, h.output, h.size, h.block⟩

set_option maxHeartbeats 4000000 in
theorem insert_grow (w : World) (g cap vb : Nat) (cur : Array Value) (ks : List Key) (k : Key) (hg : Whole w g 41 cur) (hn : 0 < ks.length) (hle : ks.length ≤ cap) (hroom : cap < ks.length + 1) (hbig : ks.length ≤ 100000)
    (hcs : cur.toList.take (ks.length * 3) = flat ks) (hv : Whole w vb 41 k.cells.toArray) :
    Calls Try.prog 41 #[.slice (some ⟨g, 0, none⟩) ks.length cap, .int .i64 0, .slice (some ⟨vb, 0, none⟩) 1 1] w fun e w' =>
      ∃ G cur', e = .returned (.slice (some ⟨w.heap.size, 0, none⟩) (ks.length + 1) G) ∧ ks.length + 1 ≤ G ∧ G ≤ maxLen ∧ w.grownBy w' none ∧ Whole w' w.heap.size 41 (splice (splice cur' 0 k.cells) 3 (flat ks)) ∧ cur'.size = G * 3 := by
  have hfl := flat_len ks
  obtain ⟨n, hnn⟩ : ∃ n, n = ks.length := ⟨_, rfl⟩
  rw [← hnn] at hn hle hroom hbig hcs hfl ⊢
  clear hnn
  have mixed : Try.prog.follows Departure.mixedOrders = true := by kernel_rfl
  obtain ⟨i0, z0, hi0, hz0, hzs, hzb, hzc⟩ := infoOf info41
  obtain ⟨N, hN⟩ : ∃ N, N = w.heap.size := ⟨_, rfl⟩
  have hgN : g < N := by rw [hN]; exact hg.lt
  have hvN : vb < N := by rw [hN]; exact hv.lt
  obtain ⟨G, W0, ROW, hrz, hG1, hG2, hgr, hW0, hR⟩ : ∃ G W0 ROW, (∀ ty, (Builtin.append_ #[26, 3] ty #[.slice (some ⟨g, 0, none⟩) 0 cap, .int .i64 ((n : Int) + 1)]).run Try.prog w = .ok (.slice (some ⟨N, 0, none⟩) (n + 1) G) W0) ∧
      n + 1 ≤ G ∧ G ≤ maxLen ∧ w.grownBy W0 none ∧ Whole W0 N 41 ROW ∧ ROW.size = G * 3 := by
    refine ⟨grownCap w (n + 1) cap 41, w.drew.alloc (.cells ((([] : List Value).toArray ++ Builtin.zeroCells z0.cells (n + 1)) ++ Builtin.zeroCells z0.cells (grownCap w (n + 1) cap 41 - (n + 1))) 41), _, fun ty => ?_, grownCap_ge w _ _ _, grownCap_le_maxLen w _ _ _ (by unfold maxLen; omega), ?_, by rw [hN]; exact Whole.new w.drew 41 _, ?_⟩
    · have h := Lib.run_append_grow_zeros w 26 3 ty 41 i0 z0 .i64 .i64 Try.underlying26 Try.underlying3 hi0 hz0 (some ⟨g, 0, none⟩) 0 cap [] (run_firstCells_some w.drew _ 0 _ _ _ [] (by simp) (by simp)) (n + 1) (by omega) (by omega) (by omega) (by omega) (by rw [hzb]; omega)
        (by rw [hzb]; exact growslice_fits (by omega) (by omega))
      simp only [Nat.zero_add] at h
      rw [hN]
      exact_mod_cast h
    · exact undrew (World.grownBy_alloc w.drew _ none)
    · simp only [Array.size_append, List.size_toArray, size_zeroCells, hzc, List.length_nil]
      have := grownCap_ge w (n + 1) cap 41
      omega
  have hg0 : Whole W0 g 41 cur := hg.grown hgr (by simp)
  have hv0 : Whole W0 vb 41 k.cells.toArray := hv.grown hgr (by simp)
  obtain ⟨W1, hcp1, hs1, hw1⟩ : ∃ W1, (∀ ty dc, (Builtin.copy_ #[26, 26] ty #[.slice (some ⟨N, 0, none⟩) (n + 1) dc, .slice (some ⟨vb, 0, none⟩) 1 1]).run Try.prog W0 = .ok (goInt 1) W1) ∧ Sto W0 W1 N ∧ Whole W1 N 41 (splice ROW 0 k.cells) :=
    ⟨_, fun ty dc => run_copy_k W0 26 26 ty 41 3 1 N 0 (n + 1) dc ⟨vb, 0, none⟩ 1 1 k.cells Try.underlying26 sz41 (by simp only [Nat.min_def]; split <;> omega) (by rfl)
      (fun j v hj => by rw [Addr.add_lit, Nat.zero_add, hv0.cell]; simpa using hj)
      (fun j hj => by rw [hW0.cell, Array.getElem?_eq_getElem (by rw [cells_len] at hj; omega)]; rfl) (fun j hj => hW0.frozen _) (fun u hu => flat_one [k] u (by simpa [flat] using hu)), setCells_blk k.cells 0 _ W0 hW0⟩
  have hg1 : Whole W1 g 41 cur := hs1.whole hg0 (by omega)
  have hsrc : ∀ j v, (flat ks)[j]? = some v → W1.cell? ⟨g, j, none⟩ = some v := fun j v hj => by
    have hjl : j < n * 3 := by have := (List.getElem?_eq_some_iff.1 hj).1; omega
    rw [← hcs, List.getElem?_take, if_pos hjl] at hj
    rw [hg1.cell]; simpa using hj
  obtain ⟨W2, hcp2, hs2, hw2⟩ : ∃ W2, (∀ ty dc sc, (Builtin.copy_ #[26, 26] ty #[.slice (some ⟨N, 3, none⟩) n dc, .slice (some ⟨g, 0, none⟩) n sc]).run Try.prog W1.drew = .ok (goInt n) W2) ∧ Sto W1.drew W2 N ∧ Whole W2 N 41 (splice (splice ROW 0 k.cells) 3 (flat ks)) :=
    ⟨_, fun ty dc sc => run_copy_k W1.drew 26 26 ty 41 3 n N 3 n dc ⟨g, 0, none⟩ n sc (flat ks) Try.underlying26 sz41 (by simp) (by rw [hfl])
      (fun j v hj => by rw [Addr.add_lit, Nat.zero_add]; exact hsrc j v hj) (fun j hj => by rw [show W1.drew.cell? _ = W1.cell? _ from rfl, hw1.cell, Array.getElem?_eq_getElem (by rw [splice_size]; omega)]; rfl) (fun j hj => hw1.frozen _) (flat_one ks), setCells_blk (flat ks) 3 _ W1.drew hw1⟩
  have hend : w.grownBy W2 none := by
    refine hgr.andThen (row' := some N) (hs1.grown.andThen (row' := some N) (show W1.grownBy W2 (some N) from undrew hs2.grown) (by intro j hj; right; exact hj)) (by intro j hj; left; cases hj; omega)
  clear hsrc hfl hv hg hg0 hv0 hg1 hs1 hs2 hgr
  have HN := Lib.hid hN
  clear hN hgN hvN
  have hz1 : ¬ ((0 : Int) = (n : Int)) := by omega
  have hwr : IntKind.i64.wrap 1 = 1 := by decide
  have hb1 : (1 : Int) ≤ (n : Int) + 1 := by omega
  have hb2 : ¬ (G = 1) := by omega
  have hb3 : (0 : Int) ≤ (n : Int) + 1 := by omega
  have hb4 : ¬ (cap = 0) := by omega
  have hb5 : ¬ (G = 0) := by omega
  have hb6 : (cap : Int) < (n : Int) + 1 := by omega
  go_enter Try.func41, Try.ntmps41
  go_wp2_with (first
    | (at_builtin; refine Lib.wpList_append_run _ rfl _ _ _ _ rfl _ _ rfl rfl _ _ (hrz _) ?_)
    | (at_builtin; refine wpList_copy_runI _ rfl _ _ 26 26 rfl _ _ rfl rfl (hcp1 _ _) ?_)
    | (at_builtin; refine wpList_copy_runI _ rfl _ _ 26 26 rfl _ _ rfl rfl (hcp2 _ _ _) ?_))
  go_region_law_o (refine step_copy_runI rfl _ _ 26 26 rfl _ _ (by simp [Act.eval, Act.put]) (by simp [Act.eval, Act.put]) (hcp2 _ _ _) ?_)
  go_wp2
  go_ret
  exact ⟨G, ROW, by rw [HN.out]; rfl, hG1, hG2, hend, by rw [← HN.out]; exact hw2, hR⟩

end Go.Proofs.Ytcdhjcjdphnleaa
