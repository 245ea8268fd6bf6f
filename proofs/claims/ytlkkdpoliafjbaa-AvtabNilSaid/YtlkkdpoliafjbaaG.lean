import Derived.Test.YtlkkdpoliafjbaaF
/-
  slices.Insert of one key ahead of the end, in new memory.
-/
namespace Go.Proofs.Ytlkkdpoliafjbaa
open Go Go.WideMaps Go.RowKit

set_option maxRecDepth 100000 in
set_option maxHeartbeats 4000000 in
theorem insert_grow (w : World) (g cap vb i : Nat) (cur : Array Value) (ks : List Key4) (k : Key4) (hg : Whole w g 60 cur) (hi : i < ks.length) (hle : ks.length ≤ cap) (hroom : cap < ks.length + 1) (hbig : ks.length ≤ 100000)
    (hcs : cur.toList.take (ks.length * 4) = flat ks) (hv : Whole w vb 60 k.cells.toArray) :
    Calls Try.prog 46 #[.slice (some ⟨g, 0, none⟩) ks.length cap, .int .i64 (i : Int), .slice (some ⟨vb, 0, none⟩) 1 1] w fun e w' =>
      ∃ G cur', e = .returned (.slice (some ⟨w.heap.size, 0, none⟩) (ks.length + 1) G) ∧ ks.length + 1 ≤ G ∧ G ≤ maxLen ∧ w.grownBy w' none ∧ Whole w' w.heap.size 60 (splice (splice cur' (i * 4) k.cells) ((i + 1) * 4) (flat (ks.drop i))) ∧ cur'.size = G * 4 ∧ cur'.toList.take (i * 4) = flat (ks.take i) := by
  have hfl : (flat (ks.drop i)).length = (ks.length - i) * 4 := by rw [flat_len, List.length_drop]
  have hft : (flat (ks.take i)).length = i * 4 := by rw [flat_len, List.length_take, Nat.min_eq_left (Nat.le_of_lt hi)]
  have hsrc0 : ∀ j v, (flat (ks.drop i))[j]? = some v → cur[i * 4 + j]? = some v := fun j v hj => by
    have h1 := flat_tail hj (Nat.le_of_lt hi)
    have hjl : i * 4 + j < ks.length * 4 := by have := (List.getElem?_eq_some_iff.1 h1).1; rw [flat_len] at this; omega
    rw [← hcs, List.getElem?_take, if_pos hjl] at h1
    simpa using h1
  have hsrcT : ∀ j v, (flat (ks.take i))[j]? = some v → cur[j]? = some v := fun j v hj => by
    have e : flat ks = flat (ks.take i) ++ flat (ks.drop i) := by rw [← flat_app, List.take_append_drop]
    have hjl := (List.getElem?_eq_some_iff.1 hj).1
    have h1 : (flat ks)[j]? = some v := by rw [e, List.getElem?_append_left hjl]; exact hj
    have hjl2 : j < ks.length * 4 := by rw [hft] at hjl; omega
    rw [← hcs, List.getElem?_take, if_pos hjl2] at h1
    simpa using h1
  obtain ⟨n, hnn⟩ : ∃ n, n = ks.length := ⟨_, rfl⟩
  rw [← hnn] at hi hle hroom hbig hcs hfl ⊢
  clear hnn
  have mixed : Try.prog.follows Departure.mixedOrders = true := by kernel_rfl
  obtain ⟨i0, z0, hi0, hz0, hzs, hzb, hzc⟩ := infoOf info60
  obtain ⟨N, hN⟩ : ∃ N, N = w.heap.size := ⟨_, rfl⟩
  have hgN : g < N := by rw [hN]; exact hg.lt
  have hvN : vb < N := by rw [hN]; exact hv.lt
  obtain ⟨G, W0, ROW, hrz, hG1, hG2, hgr, hW0, hR, hT⟩ : ∃ G W0 ROW, (∀ ty, (Builtin.append_ #[71, 3] ty #[.slice (some ⟨g, 0, none⟩) i cap, .int .i64 ((n : Int) + 1 - (i : Int))]).run Try.prog w = .ok (.slice (some ⟨N, 0, none⟩) (n + 1) G) W0) ∧
      n + 1 ≤ G ∧ G ≤ maxLen ∧ w.grownBy W0 none ∧ Whole W0 N 60 ROW ∧ ROW.size = G * 4 ∧ ROW.toList.take (i * 4) = flat (ks.take i) := by
    refine ⟨grownCap w (n + 1) cap 60, w.drew.alloc (.cells ((flat (ks.take i)).toArray ++ Builtin.zeroCells z0.cells (n + 1 - i) ++ Builtin.zeroCells z0.cells (grownCap w (n + 1) cap 60 - (n + 1))) 60), _, fun ty => ?_, grownCap_ge w _ _ _, grownCap_le_maxLen w _ _ _ (by unfold maxLen; omega), ?_, by rw [hN]; exact Whole.new w.drew 60 _, ?_, ?_⟩
    · have h := Lib.run_append_grow_zeros w 71 3 ty 60 i0 z0 .i64 .i64 Try.underlying71 Try.underlying3 hi0 hz0 (some ⟨g, 0, none⟩) i cap (flat (ks.take i)) (run_firstCells_some w.drew _ i _ _ _ (flat (ks.take i)) (by rw [hft, hzs]) (fun j v hj => by
          rw [Addr.add_lit, Nat.zero_add, show w.drew.cell? _ = w.cell? _ from rfl, hg.cell]
          exact hsrcT j v hj)) (n + 1 - i) (by omega) (by omega) (by omega) (by omega) (by rw [hzb]; omega)
        (by rw [hzb]; exact growslice_fits (by omega) (by omega))
      rw [show i + (n + 1 - i) = n + 1 by omega] at h
      rw [hN, show ((n : Int) + 1 - (i : Int)) = ((n + 1 - i : Nat) : Int) by omega]
      exact h
    · exact undrew (World.grownBy_alloc w.drew _ none)
    · simp only [Array.size_append, List.size_toArray, size_zeroCells, hzc, hft]
      have := grownCap_ge w (n + 1) cap 60
      omega
    · simp only [Array.toList_append, List.append_assoc]
      rw [← hft, List.take_left']
      rfl
  have hg0 : Whole W0 g 60 cur := hg.grown hgr (by simp)
  have hv0 : Whole W0 vb 60 k.cells.toArray := hv.grown hgr (by simp)
  obtain ⟨W1, hcp1, hs1, hw1⟩ : ∃ W1, (∀ ty dc, (Builtin.copy_ #[71, 71] ty #[.slice (some ⟨N, i * 4, none⟩) (n + 1 - i) dc, .slice (some ⟨vb, 0, none⟩) 1 1]).run Try.prog W0 = .ok (goInt 1) W1) ∧ Sto W0 W1 N ∧ Whole W1 N 60 (splice ROW (i * 4) k.cells) :=
    ⟨_, fun ty dc => run_copy_k W0 71 71 ty 60 4 1 N (i * 4) (n + 1 - i) dc ⟨vb, 0, none⟩ 1 1 k.cells Try.underlying71 size60 (by simp only [Nat.min_def]; split <;> omega) (by rfl)
      (fun j v hj => by rw [Addr.add_lit, Nat.zero_add, hv0.cell]; simpa using hj)
      (fun j hj => by rw [hW0.cell, Array.getElem?_eq_getElem (by rw [key_len] at hj; omega)]; rfl) (fun j hj => hW0.frozen _) (list_one k), setCells_blk k.cells (i * 4) _ W0 hW0⟩
  have hg1 : Whole W1 g 60 cur := hs1.whole hg0 (by omega)
  obtain ⟨W2, hcp2, hs2, hw2⟩ : ∃ W2, (∀ ty dc sc, (Builtin.copy_ #[71, 71] ty #[.slice (some ⟨N, (i + 1) * 4, none⟩) (n - i) dc, .slice (some ⟨g, i * 4, none⟩) (n - i) sc]).run Try.prog W1.drew = .ok (goInt (n - i : Nat)) W2) ∧ Sto W1.drew W2 N ∧ Whole W2 N 60 (splice (splice ROW (i * 4) k.cells) ((i + 1) * 4) (flat (ks.drop i))) :=
    ⟨_, fun ty dc sc => run_copy_k W1.drew 71 71 ty 60 4 (n - i) N ((i + 1) * 4) (n - i) dc ⟨g, i * 4, none⟩ (n - i) sc (flat (ks.drop i)) Try.underlying71 size60 (by simp) (by rw [hfl])
      (fun j v hj => by rw [Addr.add_mid, show W1.drew.cell? _ = W1.cell? _ from rfl, hg1.cell]; exact hsrc0 j v hj) (fun j hj => by rw [show W1.drew.cell? _ = W1.cell? _ from rfl, hw1.cell, Array.getElem?_eq_getElem (by rw [splice_size]; rw [hfl] at hj; omega)]; rfl) (fun j hj => hw1.frozen _) (flat_one _), setCells_blk (flat (ks.drop i)) ((i + 1) * 4) _ W1.drew hw1⟩
  have hend : w.grownBy W2 none := by
    refine hgr.andThen (row' := some N) (hs1.grown.andThen (row' := some N) (show W1.grownBy W2 (some N) from undrew hs2.grown) (by intro j hj; right; exact hj)) (by intro j hj; left; cases hj; omega)
  clear hsrc0 hsrcT hfl hv hg hg0 hv0 hg1 hs1 hs2 hgr
  have HN := Lib.hid hN
  have HT := Lib.hid hT
  clear hN hgN hvN hT hft
  have hz1 : ¬ ((i : Int) = (n : Int)) := by omega
  have hz2 : ((i : Int) == (n : Int)) = false := by simp; omega
  have hwr : IntKind.i64.wrap 1 = 1 := by decide
  have hwi : IntKind.i64.wrap ((i : Int) + 1) = (i : Int) + 1 := by rw [IntKind.wrap_i64]; omega
  have hwj : IntKind.i64.wrap ((n : Int) + 1 - (i : Int)) = (n : Int) + 1 - (i : Int) := by rw [IntKind.wrap_i64]; omega
  have hb6 : (cap : Int) < (n : Int) + 1 := by omega
  have q1 := fun W => run_tail W g 0 n cap i (i : Int) rfl (by omega) (by omega)
  have q2 := fun W => run_head W g 0 n cap i (i : Int) rfl (by omega)
  have q3 := fun W => run_tail W N 0 (n + 1) G i (i : Int) rfl (by omega) (by omega)
  have q4 := fun W => run_tail W N 0 (n + 1) G (i + 1) ((i : Int) + 1) (by omega) (by omega) (by omega)
  simp only [Nat.zero_add] at q1 q3 q4
  go_enter Try.func46, Try.ntmps46
  go_wp2_with (first
    | (at_builtin; refine Lib.wpList_append_run _ rfl _ _ _ _ rfl _ _ rfl rfl _ _ (hrz _) ?_)
    | (at_builtin; refine wpList_copy_runI _ rfl _ _ 71 71 rfl _ _ rfl rfl (hcp1 _ _) ?_)
    | (at_builtin; refine wpList_copy_runI _ rfl _ _ 71 71 rfl _ _ rfl rfl (hcp2 _ _ _) ?_))
  go_region_law_o (refine step_copy_runI rfl _ _ 71 71 rfl _ _ (by simp [Act.eval, Act.put]) (by simp [Act.eval, Act.put]) (hcp2 _ _ _) ?_)
  go_wp2
  go_ret
  exact ⟨G, ROW, by rw [HN.out]; rfl, hG1, hG2, hend, by rw [← HN.out]; exact hw2, hR, HT.out⟩
end Go.Proofs.Ytlkkdpoliafjbaa
