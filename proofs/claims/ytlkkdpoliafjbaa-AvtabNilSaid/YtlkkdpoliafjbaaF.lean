import Derived.Test.YtlkkdpoliafjbaaE
import Derived.Laws.IdiomCopy
import Derived.Lib.Overlaps
import Derived.Lib.AppendZerosOnto
import Derived.Shelf.Spec.SlicesInsertGrow
import Derived.WalkKit
import Derived.WalkSpells
/-
  slices.Insert of one key, at any place: in the slice's room; in new memory.
-/
namespace Go.Proofs.Ytlkkdpoliafjbaa
open Go Go.WideMaps Go.RowKit

section
variable {P : Program}
/-- 'copy(d, s)' of elements of k cells. -/
theorem run_copy_k (w : World) (dT sT ty elem : TypeId) (k n b o dLen dCap : Nat) (a : Addr) (sLen sCap : Nat) (cs : List Value)
    (hu : P.underlying dT = some (.slice elem)) (hs : (P.info? elem).map (·.size) = some k) (hm : Nat.min sLen dLen = n) (hn : cs.length = n * k)
    (hsrc : ∀ j v, cs[j]? = some v → w.cell? (a.add j) = some v) (hc : ∀ j, j < cs.length → (w.cell? ⟨b, o + j, none⟩).isSome = true) (hf : ∀ j, j < cs.length → w.frozen? ⟨b, o + j, none⟩ = false) (h1 : ∀ v ∈ cs, v.oneCell' = true) :
    (Builtin.copy_ #[dT, sT] ty #[.slice (some ⟨b, o, none⟩) dLen dCap, .slice (some a) sLen sCap]).run P w = .ok (goInt n) (w.setCells b o cs) := by
  have hl := run_loadCells_list (P := P) w a cs hsrc
  have hst := run_storeCells_cells (P := P) b o cs 0 w (by simpa using hc) (by simpa using hf) h1
  cases hq : P.info? elem with
  | none => simp [hq] at hs
  | some i =>
    have hi : i.size = k := by simpa [hq] using hs
    simp [Builtin.copy_, run_underlying hu, Builtin.lenOf, Builtin.firstCells, sizeOf, typeInfo, hq, hi, hm, ← hn, hl, hst]
end
def flat (ks : List Key4) : List Value := ks.flatMap Key4.cells
theorem flat_len (ks : List Key4) : (flat ks).length = ks.length * 4 := flat_length key_len ks
theorem flat_one (ks : List Key4) : ∀ u ∈ flat ks, u.oneCell' = true := by
  intro u hu
  obtain ⟨k, _, hk⟩ := List.mem_flatMap.1 hu
  exact list_one k u hk
theorem flat_app (a b : List Key4) : flat (a ++ b) = flat a ++ flat b := by simp [flat]
theorem flat_tail {ks : List Key4} {i j : Nat} {v : Value} (h : (flat (ks.drop i))[j]? = some v) (hi : i ≤ ks.length) : (flat ks)[i * 4 + j]? = some v := by
  have e : flat ks = flat (ks.take i) ++ flat (ks.drop i) := by rw [← flat_app, List.take_append_drop]
  have hl : (flat (ks.take i)).length = i * 4 := by rw [flat_len, List.length_take, Nat.min_eq_left hi]
  rw [e, List.getElem?_append_right (by rw [hl]; omega), hl]
  simpa using h
theorem sizeOf60 (w : World) : (Go.sizeOf 60).run Try.prog w = .ok 4 w := by kernel_rfl
theorem elem71 : Try.prog.elem 71 = 60 := by kernel_rfl
theorem und71 : Try.prog.underlying 71 = some (.slice (Try.prog.elem 71)) := by rw [elem71]; exact Try.underlying71
theorem run_head (w : World) (b off n c m : Nat) (z : Int) (hz : z = m) (hm : m ≤ c) : (Instr.slice 71 (.slice (some ⟨b, off, none⟩) n c) none (some (.int .i64 z)) none).run Try.prog w = .ok (.slice (some ⟨b, off, none⟩) m c) w := by
  subst hz
  rw [run_slice_h w 71 (some ⟨b, off, none⟩) n c und71 .i64 (m : Int) (by omega) (by omega), elem71, Try.sizeOf60]
  simp [Result.andThen, sliced, Addr.add_mid]
theorem run_tail (w : World) (b off n c m : Nat) (z : Int) (hz : z = m) (hm : m ≤ n) (hc : m < c) : (Instr.slice 71 (.slice (some ⟨b, off, none⟩) n c) (some (.int .i64 z)) none none).run Try.prog w = .ok (.slice (some ⟨b, off + m * 4, none⟩) (n - m) (c - m)) w := by
  subst hz
  rw [run_slice_l w 71 (some ⟨b, off, none⟩) n c und71 .i64 (m : Int) (by omega) (by omega), elem71, Try.sizeOf60]
  have : ¬ c = m := by omega
  simp [Result.andThen, sliced, Addr.add_mid, this]
theorem apart {w : World} {g vb o lb cb : Nat} {cur ce : Array Value} (hg : Whole w g 60 cur) (hc : cur.size ≠ 0) (hv : Whole w vb 60 ce) (hne : vb ≠ g) :
    (callFunc 51 #[.slice (some ⟨vb, 0, none⟩) 1 1, .slice (some ⟨g, o, none⟩) lb cb]).run Try.prog w = .ok (.value (.bool false)) w := by
  rw [run_callFunc_extern Try.func51 (by kernel_rfl) (by kernel_rfl) (by kernel_rfl) (e := Extern.SlicesOverlaps.overlaps #[71, 71] #[4]) (by kernel_rfl),
    Lib.run_overlaps_apart w 71 4 60 Try.underlying71 4 sizeOf60 ⟨vb, 0, none⟩ ⟨g, o, none⟩ 1 1 lb cb hne 60 60 ce.size cur.size (by simp [World.shape?, show w.heap[vb]? = _ from hv]) (by simp [World.shape?, show w.heap[g]? = _ from hg]) hc (hv.frozen 0) (hv.frozen _)]
  rfl
theorem undrew {w w' : World} {row : Option Nat} (h : w.drew.grownBy w' row) : w.grownBy w' row := ⟨h.os, h.tape, h.output, h.size, h.block⟩

set_option maxHeartbeats 4000000 in
theorem insert_shift (w : World) (g cap vb i : Nat) (cur : Array Value) (ks : List Key4) (k : Key4) (hg : Whole w g 60 cur) (hi : i < ks.length) (hroom : ks.length + 1 ≤ cap) (hcap : cap ≤ maxLen)
    (hcur : cur.size = cap * 4) (hcs : cur.toList.take (ks.length * 4) = flat ks) (hv : Whole w vb 60 k.cells.toArray) (hne : vb ≠ g) :
    Calls Try.prog 46 #[.slice (some ⟨g, 0, none⟩) ks.length cap, .int .i64 (i : Int), .slice (some ⟨vb, 0, none⟩) 1 1] w fun e w' =>
      e = .returned (.slice (some ⟨g, 0, none⟩) (ks.length + 1) cap) ∧ Sto w.drew w' g ∧ Whole w' g 60 (splice (splice cur ((i + 1) * 4) (flat (ks.drop i))) (i * 4) k.cells) := by
  have hov : ∀ W o lb cb, w = W → (callFunc 51 #[.slice (some ⟨vb, 0, none⟩) 1 1, .slice (some ⟨g, o, none⟩) lb cb]).run Try.prog W = .ok (.value (.bool false)) W := fun W o lb cb e => by rw [← e]; exact apart (o := o) (lb := lb) (cb := cb) hg (by omega) hv hne
  have hov1 : ∀ o lb cb, (callFunc 51 #[.slice (some ⟨vb, 0, none⟩) 1 1, .slice (some ⟨g, o, none⟩) lb cb]).run Try.prog w = .ok (.value (.bool false)) w := fun o lb cb => hov w o lb cb rfl
  have hfl : (flat (ks.drop i)).length = (ks.length - i) * 4 := by rw [flat_len, List.length_drop]
  unfold maxLen at hcap
  obtain ⟨n, hnn⟩ : ∃ n, n = ks.length := ⟨_, rfl⟩
  have hsrc0 : ∀ j v, (flat (ks.drop i))[j]? = some v → w.cell? ⟨g, i * 4 + j, none⟩ = some v := fun j v hj => by
    have h1 := flat_tail hj (Nat.le_of_lt hi)
    have hjl : i * 4 + j < ks.length * 4 := by have := (List.getElem?_eq_some_iff.1 h1).1; rw [flat_len] at this; omega
    rw [← hcs, List.getElem?_take, if_pos hjl] at h1
    rw [hg.cell]; simpa using h1
  rw [← hnn] at hi hroom hcs hfl ⊢
  clear hnn hov
  have mixed : Try.prog.follows Departure.mixedOrders = true := by kernel_rfl
  have hz1 : ¬ ((i : Int) = (n : Int)) := by omega
  have hz2 : ((i : Int) == (n : Int)) = false := by simp; omega
  have hwr : IntKind.i64.wrap 1 = 1 := by decide
  have hb1 : ¬ ((cap : Int) < (n : Int) + 1) := by omega
  have hwi : IntKind.i64.wrap ((i : Int) + 1) = (i : Int) + 1 := by rw [IntKind.wrap_i64]; omega
  have q1 := fun W => run_tail W g 0 n cap i (i : Int) rfl (by omega) (by omega)
  have q2 := fun W => run_head W g 0 n cap (n + 1) ((n : Int) + 1) (by omega) (by omega)
  have q3 := fun W => run_tail W g 0 (n + 1) cap (i + 1) ((i : Int) + 1) (by omega) (by omega) (by omega)
  have q4 := fun W => run_tail W g 0 (n + 1) cap i (i : Int) rfl (by omega) (by omega)
  simp only [Nat.zero_add] at q1 q3 q4
  have hin : ∀ j, j < cap * 4 → (w.cell? ⟨g, j, none⟩).isSome = true := fun j hj => by rw [hg.cell, Array.getElem?_eq_getElem (by omega)]; rfl
  obtain ⟨W1, hcp1, hs1, hw1⟩ : ∃ W1, (∀ ty dc sc, (Builtin.copy_ #[71, 71] ty #[.slice (some ⟨g, (i + 1) * 4, none⟩) (n - i) dc, .slice (some ⟨g, i * 4, none⟩) (n + 1 - i) sc]).run Try.prog w.drew = .ok (goInt (n - i : Nat)) W1) ∧ Sto w.drew W1 g ∧ Whole W1 g 60 (splice cur ((i + 1) * 4) (flat (ks.drop i))) :=
    ⟨_, fun ty dc sc => run_copy_k w.drew 71 71 ty 60 4 (n - i) g ((i + 1) * 4) (n - i) dc ⟨g, i * 4, none⟩ (n + 1 - i) sc (flat (ks.drop i)) Try.underlying71 size60 (by simp only [Nat.min_def]; split <;> omega) (by rw [hfl])
      (fun j v hj => by rw [Addr.add_mid]; exact hsrc0 j v hj) (fun j hj => hin _ (by rw [hfl] at hj; omega)) (fun j hj => hg.frozen _) (flat_one _), setCells_blk (flat (ks.drop i)) ((i + 1) * 4) cur w.drew hg⟩
  have hv1 : Whole W1 vb 60 k.cells.toArray := hs1.whole hv hne
  obtain ⟨W2, hcp2, hs2, hw2⟩ : ∃ W2, (∀ ty dc, (Builtin.copy_ #[71, 71] ty #[.slice (some ⟨g, i * 4, none⟩) (n + 1 - i) dc, .slice (some ⟨vb, 0, none⟩) 1 1]).run Try.prog W1 = .ok (goInt 1) W2) ∧ Sto W1 W2 g ∧ Whole W2 g 60 (splice (splice cur ((i + 1) * 4) (flat (ks.drop i))) (i * 4) k.cells) :=
    ⟨_, fun ty dc => run_copy_k W1 71 71 ty 60 4 1 g (i * 4) (n + 1 - i) dc ⟨vb, 0, none⟩ 1 1 k.cells Try.underlying71 size60 (by simp only [Nat.min_def]; split <;> omega) (by rfl)
      (fun j v hj => by rw [Addr.add_lit, Nat.zero_add, hv1.cell]; simpa using hj)
      (fun j hj => by rw [hw1.cell, Array.getElem?_eq_getElem (by rw [splice_size]; rw [key_len] at hj; omega)]; rfl) (fun j hj => hw1.frozen _) (list_one k), setCells_blk k.cells (i * 4) _ W1 hw1⟩
  clear hsrc0 hin hcs hfl hcur hv hv1 hg
  go_enter Try.func46, Try.ntmps46
  go_wp2_with (simp only [hov1])
  go_region_law_o (refine step_copy_runI rfl _ _ 71 71 rfl _ _ (by simp [Act.eval, Act.put]) (by simp [Act.eval, Act.put]) (hcp1 _ _ _) ?_)
  go_wp2_with (at_builtin; refine wpList_copy_runI _ rfl _ _ 71 71 rfl _ _ rfl rfl (hcp2 _ _) ?_)
  go_ret
  exact ⟨rfl, hs1.trans hs2, hw2⟩
end Go.Proofs.Ytlkkdpoliafjbaa
