import Derived.Test.YtcdhjcjdphnleaaJ
import Derived.Deep.RegionLaw
import Derived.Lib.SliceRun
namespace Go.Proofs.Ytcdhjcjdphnleaa
open Go Go.WideMaps Go.RowKit

theorem run_clear_key (w : World) (b o c : Nat) (ty : TypeId) (hc : ∀ j, j < 3 → (w.cell? ⟨b, o + j, none⟩).isSome = true) (hf : ∀ j, j < 3 → w.frozen? ⟨b, o + j, none⟩ = false) :
    (Builtin.clear_ #[26] ty #[.slice (some ⟨b, o, none⟩) 1 c]).run Try.prog w = .ok (.tuple #[]) (w.setCells b o [.int .i64 0, .int .i64 0, .int .i64 0]) := by
  have hst := run_storeCells_cells (P := Try.prog) b o [.int .i64 0, .int .i64 0, .int .i64 0] 0 w (by simpa using hc) (by simpa using hf) (by simp [Value.oneCell'])
  simp only [Nat.add_zero] at hst
  have hv : (zeroValue 41).run Try.prog w = .ok (.agg #[.int .i64 0, .int .i64 0, .int .i64 0]) w := by kernel_rfl
  have hzc : (Builtin.zeroCells (Value.agg #[.int .i64 0, .int .i64 0, .int .i64 0]).cells 1).toList = [.int .i64 0, .int .i64 0, .int .i64 0] := by kernel_rfl
  simp [Builtin.clear_, run_underlying Try.underlying26, hv, hzc, hst]

theorem flat_drop (ks : List Key) (i : Nat) : flat (ks.drop i) = (flat ks).drop (i * 3) := by
  induction ks generalizing i with
  | nil => simp [flat]
  | cons k ks ih =>
    cases i with
    | zero => simp
    | succ i =>
      rw [List.drop_succ_cons, ih]
      show _ = (k.cells ++ flat ks).drop _
      rw [show (i + 1) * 3 = k.cells.length + i * 3 by rw [cells_len]; omega, ← List.drop_drop, List.drop_left]

theorem flat_take (ks : List Key) (i : Nat) : flat (ks.take i) = (flat ks).take (i * 3) := by
  induction ks generalizing i with
  | nil => simp [flat]
  | cons k ks ih =>
    cases i with
    | zero => simp [flat]
    | succ i =>
      rw [List.take_succ_cons]
      show k.cells ++ flat (ks.take i) = (k.cells ++ flat ks).take _
      rw [ih, show (i + 1) * 3 = k.cells.length + i * 3 by rw [cells_len]; omega, List.take_length_add_append]

theorem flat_app (a b : List Key) : flat (a ++ b) = flat a ++ flat b := by simp [flat]

set_option maxHeartbeats 4000000 in
theorem delete_at (w : World) (g cap i : Nat) (cur : Array Value) (ks : List Key) (hg : Whole w g 41 cur) (hi : i < ks.length) (hle : ks.length ≤ cap) (hcap : cap ≤ 9223372036854775807)
    (hcur : cur.size = cap * 3) (hcs : cur.toList.take (ks.length * 3) = flat ks) :
    Calls Try.prog 43 #[.slice (some ⟨g, 0, none⟩) ks.length cap, .int .i64 i, .int .i64 ((i : Int) + 1)] w fun e w' =>
      e = .returned (.slice (some ⟨g, 0, none⟩) (ks.length - 1) cap) ∧ Sto w.drew w' g ∧ ∃ cur', Whole w' g 41 cur' ∧ cur'.size = cap * 3 ∧ cur'.toList.take ((ks.length - 1) * 3) = flat (ks.eraseIdx i) := by
  obtain ⟨i0, z0, hi0, hz0, hzs, hzb, hzc⟩ := infoOf info41
  obtain ⟨news, hnews⟩ : ∃ news, news = flat (ks.drop (i + 1)) := ⟨_, rfl⟩
  have hfl := flat_len ks
  have hlen : news.length = (ks.length - (i + 1)) * 3 := by rw [hnews, flat_len]; simp
  have hnf : news = (flat ks).drop ((i + 1) * 3) := by rw [hnews, flat_drop]
  have hget : ∀ t u, news[t]? = some u → w.drew.cell? ⟨g, (i + 1) * 3 + t, none⟩ = some u := fun t u hu => by
    rw [hnf, List.getElem?_drop, ← hcs, List.getElem?_take] at hu
    split at hu
    · exact (hg.cell _).trans (by simpa using hu)
    · cases hu
  have hfree : ∀ W : World, ∀ cs : Array Value, Whole W g 41 cs → cs.size = cap * 3 → ∀ t, t < cap * 3 → (W.cell? ⟨g, t, none⟩).isSome = true := fun W cs hW hs t ht => by rw [hW.cell, Array.getElem?_eq_getElem (by omega)]; rfl
  obtain ⟨A, hA, hsrc⟩ : ∃ A : Addr, (if cap = i + 1 then some (⟨g, 0, none⟩ : Addr) else some ⟨g, (i + 1) * 3, none⟩) = some A ∧ Hid (∀ t u, news[t]? = some u → w.drew.cell? (A.add t) = some u) := by
    by_cases h : cap = i + 1
    · refine ⟨⟨g, 0, none⟩, by simp [h], fun t u hu => ?_⟩
      have h0 : news.length = 0 := by rw [hlen]; omega
      rw [List.length_eq_zero_iff.1 h0] at hu
      simp at hu
    · refine ⟨⟨g, (i + 1) * 3, none⟩, by simp [h], fun t u hu => ?_⟩
      rw [Addr.add_lit]
      exact hget t u hu
  have s1 := Lib.hid hlen
  have s2 := Lib.hid (show ∀ u ∈ news, u.oneCell' = true by rw [hnews]; exact flat_one _)
  have s3 := Lib.hid (show ∀ t, t < news.length → (w.drew.cell? ⟨g, 0 + i * 3 + t, none⟩).isSome = true ∧ w.drew.frozen? ⟨g, 0 + i * 3 + t, none⟩ = false from fun t ht => ⟨hfree w.drew cur hg hcur _ (by omega), hg.frozen _⟩)
  obtain ⟨W1, hW1⟩ : ∃ W1, W1 = w.drew.setCells g (0 + i * 3) news := ⟨_, rfl⟩
  have hb := setCells_blk (t := 41) news (0 + i * 3) cur w.drew hg
  rw [← hW1] at hb
  obtain ⟨hs1, hw1⟩ := hb
  obtain ⟨W2, hcl, hs2, hw2⟩ : ∃ W2, (∀ ty c, (Builtin.clear_ #[26] ty #[.slice (some ⟨g, (ks.length - 1) * 3, none⟩) 1 c]).run Try.prog W1 = .ok (.tuple #[]) W2) ∧ Sto W1 W2 g ∧ Whole W2 g 41 (splice (splice cur (0 + i * 3) news) ((ks.length - 1) * 3) [.int .i64 0, .int .i64 0, .int .i64 0]) :=
    ⟨_, fun ty c => run_clear_key W1 g _ c ty (fun j hj => hfree W1 _ hw1 (by rw [splice_size]; exact hcur) _ (by omega)) (fun j hj => hw1.frozen _), setCells_blk _ _ _ W1 hw1⟩
  have hend : Hid (∃ cur', Whole W2 g 41 cur' ∧ cur'.size = cap * 3 ∧ cur'.toList.take ((ks.length - 1) * 3) = flat (ks.eraseIdx i)) := by
    refine ⟨_, hw2, by rw [splice_size, splice_size]; exact hcur, ?_⟩
    rw [splice_toList _ _ _ (by rw [splice_size]; simp; omega), List.append_assoc, List.take_append_of_le_length (by simp [splice_size]; omega), List.take_take, Nat.min_self]
    have e : (ks.length - 1) * 3 = (0 + i * 3) + news.length := by rw [hlen]; omega
    rw [splice_take _ _ _ _ (by rw [hlen]; omega) e, List.eraseIdx_eq_take_drop_succ, flat_app, ← hnews, flat_take, ← hcs, List.take_take, Nat.min_eq_left (by omega), Nat.zero_add]
  have HW := Lib.hid hW1
  have HI := Lib.hid hzs
  obtain ⟨n, hnn⟩ : ∃ n, n + 1 = ks.length := ⟨ks.length - 1, by omega⟩
  rw [← hnn] at hi hle hcl s1 ⊢
  simp only [Nat.add_sub_cancel] at hcl ⊢
  have s1' : Hid (news.length = (n - i) * 3) := by have := s1.out; unfold Hid; rw [this]; congr 1; omega
  rw [← hnn] at hend
  simp only [Nat.add_sub_cancel] at hend
  have hcl' : ∀ ty c, (Builtin.clear_ #[26] ty #[.slice (some ⟨g, (i + (n - i)) * 3, none⟩) (n + 1 - (i + (n - i))) c]).run Try.prog W1 = .ok (.tuple #[]) W2 := fun ty c => by
    have := hcl ty c
    rwa [show i + (n - i) = n by omega, show n + 1 - n = 1 by omega]
  have hE : Hid (Ending.returned (.slice (some ⟨g, 0, none⟩) (i + (n - i)) cap) = .returned (.slice (some ⟨g, 0, none⟩) n cap)) := by unfold Hid; rw [show i + (n - i) = n by omega]
  clear hcl
  clear hW1 hget hnf hlen hnews hfree hfl hcs hcur hg hw1 hw2 hnn s1 hzs hzb hzc hz0
  have hcap := hcap
  have mixed : Try.prog.follows Departure.mixedOrders = true := by kernel_rfl
  have q1 : ¬ ((i : Int) = (i : Int) + 1) := by omega
  have q2 : (i : Int) + 1 ≤ (n : Int) + 1 := by omega
  have q3 : (0 : Int) ≤ (i : Int) + 1 := by omega
  have q4 : i ≤ cap := by omega
  have q5 : i + 1 ≤ cap := by omega
  have q6 : (i : Int) + 1 ≤ cap := by omega
  go_enter Try.func43, Try.ntmps43
  go_wp2_with fail
  go_region_law_o (refine step_append_room rfl (.tmp 22) (.tmp 25) 26 rfl 41 i0 3 Try.underlying26 hi0 HI.out g 0 i cap (by simp [Act.eval, Act.put]) A (n - i) (cap - (i + 1)) news (by simp [Act.eval, Act.put]) s1'.out hsrc.out s2.out (by omega) s3.out ?_; rw [← HW.out])
  go_wp2
  go_ret
  exact ⟨hE.out, hs1.trans hs2, hend.out⟩

end Go.Proofs.Ytcdhjcjdphnleaa
