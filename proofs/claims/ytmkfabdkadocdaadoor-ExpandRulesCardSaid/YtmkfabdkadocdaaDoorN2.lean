import Derived.Test.YtmkfabdkadocdaaDoorN1
/-
  ref01.Of.
-/
namespace Go.Proofs.YtmkfabdkadocdaaDoor
open Go Go.RowKit

def ofs (l : List Int) : ASet := l.foldl ASet.with ASet.zero
theorem zero_ok : ASet.zero.Ok := by constructor <;> (show (0 : Nat) < 18446744073709551616; decide)
theorem foldl_ok : ∀ (l : List Int) {s : ASet}, s.Ok → (l.foldl ASet.with s).Ok
  | [], _, h => h
  | x :: l, _, h => foldl_ok l (ASet.with_ok h x)
theorem ofs_ok (l : List Int) : (ofs l).Ok := foldl_ok l zero_ok
set_option maxRecDepth 100000 in
set_option maxHeartbeats 4000000 in
theorem of_any (w : World) (v : Value) (l : List Int) (h : SliceAt w v 1 l.length (l.map anInt)) : Calls Tryd.prog 29 #[v] w fun e w' => e = .returned (.agg #[.int .u64 (ofs l).a, .int .u64 (ofs l).b, .int .u64 (ofs l).c, .int .u64 (ofs l).d]) ∧ Below w.heap.size w w' := by
  obtain ⟨a, c, rfl, hac, hmx, HA⟩ := h.form (by decide)
  have H1 := Lib.hid HA
  clear HA h
  obtain ⟨N, hN⟩ : ∃ N, N = l.length := ⟨_, rfl⟩
  rw [← hN] at H1 hac hmx ⊢
  have HN := Lib.hid hN
  clear hN
  have HR0 := Lib.hid (show Whole ((w.alloc (.cells #[.int .u64 0, .int .u64 0, .int .u64 0, .int .u64 0] 24)).alloc (.cells #[.int .u64 0, .int .u64 0, .int .u64 0, .int .u64 0] 24)) w.heap.size 24 #[.int .u64 0, .int .u64 0, .int .u64 0, .int .u64 0] from (Whole.new w 24 #[.int .u64 0, .int .u64 0, .int .u64 0, .int .u64 0]).alloc _)
  have HS0 := Lib.hid (show Whole ((w.alloc (.cells #[.int .u64 0, .int .u64 0, .int .u64 0, .int .u64 0] 24)).alloc (.cells #[.int .u64 0, .int .u64 0, .int .u64 0, .int .u64 0] 24)) (w.heap.size + 1) 24 #[.int .u64 0, .int .u64 0, .int .u64 0, .int .u64 0] from whole_two w _ #[.int .u64 0, .int .u64 0, .int .u64 0, .int .u64 0] _)
  go_enter Tryd.func29, Tryd.ntmps29
  go_wp2_with (refine wpList_store_blk rfl 24 _ _ rfl (w.heap.size + 1) 0 (.agg #[.int .u64 0, .int .u64 0, .int .u64 0, .int .u64 0]) rfl rfl 24 _ HS0.out (by simp [Value.cells]) size24 rfl ?_; intro w2 S2 W2; rw [splice_all _ _ (by rfl)] at W2; have HS2 := Lib.hid S2; have HW2 := Lib.hid (show Whole w2 (w.heap.size + 1) 24 #[.int .u64 0, .int .u64 0, .int .u64 0, .int .u64 0] from W2); clear S2 W2 HS0)
  have HR2 := Lib.hid (HS2.out.whole HR0.out (by omega))
  have HB2 := Lib.hid (show Below w.heap.size w w2 from (((Below.refl _ w).alloc (Nat.le_refl _) _).alloc (by simp) _).trans (HS2.out.below (by omega)))
  clear HR0 HS2
  go_loopw [4] (fun i wr => ∃ (n : Nat) (s : ASet), n ≤ N ∧ i = .int .i64 n ∧ s = (l.take n).foldl ASet.with ASet.zero ∧ Whole wr w.heap.size 24 #[.int .u64 0, .int .u64 0, .int .u64 0, .int .u64 0] ∧ Whole wr (w.heap.size + 1) 24 #[.int .u64 s.a, .int .u64 s.b, .int .u64 s.c, .int .u64 s.d] ∧ Below w.heap.size w wr) (fun i _ => N - (intOf i).toNat)
  case atStart => exact ⟨0, ASet.zero, Nat.zero_le _, rfl, rfl, HR2.out, HW2.out, HB2.out⟩
  case round =>
    clear HR2 HW2 HB2
    obtain ⟨n, s, hn, rfl, hse, hR, hS, hb⟩ := hrel
    have HSE := Lib.hid hse
    have HB0 := Lib.hid hR
    have HB1 := Lib.hid hS
    have HBW := Lib.hid hb
    have HS := Lib.hid (show s.Ok by rw [hse]; exact foldl_ok _ zero_ok)
    clear hse hR hS hb
    by_cases hlt : n < N
    · obtain ⟨b, off, rfl, hc⟩ := H1.out n hlt
      obtain ⟨y, hy⟩ : ∃ y, l[n]? = some y := ⟨_, List.getElem?_eq_getElem (by have := HN.out; omega)⟩
      have c0 : wr.cell? ⟨b, off + n, none⟩ = some (.int .i64 y) := by
        have h := cell_later HBW.out (hc 0 (.int .i64 y) (by simp [hy, anInt]))
        rwa [Nat.mul_one] at h
      have HY := Lib.hid hy
      obtain ⟨t, ht⟩ : ∃ t, s.with y = t := ⟨_, rfl⟩
      have HT := Lib.hid ht
      clear hy hc ht
      go_wp2_with fail
      refine wp_region_last (fun w w' => Below w.heap.size w w') [some 12, some 13, some 14, some 15, some 16, some 17] [isV (.agg #[.int .u64 s.a, .int .u64 s.b, .int .u64 s.c, .int .u64 s.d]), isV (.slice (some ⟨b, off, none⟩) N c), isV (.int .i64 n), isV (.pointer (some ⟨b, off + n, none⟩)), isV (.int .i64 y), isV (.agg #[.int .u64 t.a, .int .u64 t.b, .int .u64 t.c, .int .u64 t.d])] (fun _ w' => Below wr.heap.size wr w') 6 (by kernel_rfl) (by kernel_rfl) (by kernel_rfl) rfl (by decide) rfl rfl ((Below.refl _ _).drew) ⟨lasts_is _, lasts_is _, lasts_is _, lasts_is _, lasts_is _, lasts_is _, trivial⟩ ⟨(fun _ => lastsR_is _), (fun _ => lastsR_is _), (fun _ => lastsR_is _), (fun _ => lastsR_is _), (fun _ => lastsR_is _), (fun _ => lastsR_is _), trivial⟩ ⟨?_, ?_, ?_, ?_, ?_, ?_, ?_⟩
      · intro L a wx Q' hL hi H F hK
        try dsimp only at hi
        have h3 : a.tmps[3]? = some (.pointer (some ⟨w.heap.size + 1, 0, none⟩)) := F 3 rfl
        have HI := Lib.hid hi
        clear H F hi hL
        have kq0 : wx.cell? ⟨w.heap.size + 1, 0, none⟩ = some (.int .u64 s.a) := (Whole.under HI.out HB1.out (Whole.lt HB1.out)).cell 0
        have kq1 : wx.cell? ⟨w.heap.size + 1, 1, none⟩ = some (.int .u64 s.b) := (Whole.under HI.out HB1.out (Whole.lt HB1.out)).cell 1
        have kq2 : wx.cell? ⟨w.heap.size + 1, 2, none⟩ = some (.int .u64 s.c) := (Whole.under HI.out HB1.out (Whole.lt HB1.out)).cell 2
        have kq3 : wx.cell? ⟨w.heap.size + 1, 3, none⟩ = some (.int .u64 s.d) := (Whole.under HI.out HB1.out (Whole.lt HB1.out)).cell 3
        go_wp2_with fail
        exact hK _ _ (Below.refl _ _) HI.out rfl
      · intro L a wx Q' hL hi H F hK
        try dsimp only at hi
        have h0 : a.tmps[0]? = some (.slice (some ⟨b, off, none⟩) N c) := F 0 rfl
        have HI := Lib.hid hi
        clear H F hi hL
        go_wp2_with fail
        exact hK _ _ (Below.refl _ _) HI.out rfl
      · intro L a wx Q' hL hi H F hK
        try dsimp only at hi
        have h4 : a.tmps[4]? = some (.int .i64 n) := F 4 rfl
        have HI := Lib.hid hi
        clear H F hi hL
        go_wp2_with fail
        exact hK _ _ (Below.refl _ _) HI.out rfl
      · intro L a wx Q' hL hi H F hK
        try dsimp only at hi
        obtain ⟨_, h13, rfl⟩ := H 1 ⟨.data, by simp, rfl⟩ _ rfl
        replace h13 := h13 _ rfl
        obtain ⟨_, h14, rfl⟩ := H 2 ⟨.data, by simp, rfl⟩ _ rfl
        replace h14 := h14 _ rfl
        have HI := Lib.hid hi
        clear H F hi hL
        go_wp2_with fail
        exact hK _ _ (Below.refl _ _) HI.out rfl
      · intro L a wx Q' hL hi H F hK
        try dsimp only at hi
        obtain ⟨_, h15, rfl⟩ := H 3 ⟨.data, by simp, rfl⟩ _ rfl
        replace h15 := h15 _ rfl
        have HI := Lib.hid hi
        clear H F hi hL
        have kk : wx.cell? ⟨b, off + n, none⟩ = some (.int .i64 y) := cell_later HI.out c0
        go_wp2_with fail
        exact hK _ _ (Below.refl _ _) HI.out rfl
      · intro L a wx Q' hL hi H F hK
        try dsimp only at hi
        obtain ⟨_, h12, rfl⟩ := H 0 ⟨.data, by simp, rfl⟩ _ rfl
        replace h12 := h12 _ rfl
        obtain ⟨_, h16, rfl⟩ := H 4 ⟨.data, by simp, rfl⟩ _ rfl
        replace h16 := h16 _ rfl
        have HI := Lib.hid hi
        clear H F hi hL
        go_wp2_with (go_at_call 44; go_must (refine (rwith_any wx s HS.out y).mono ?_; rintro e w1 ⟨rfl, hb1⟩; rw [HT.out]))
        exact hK _ _ hb1 (HI.out.trans (hb1.mono HI.out.size)) rfl
      · intro a wx hl L hi hL Q' hK
        try dsimp only at hi
        have HB := Lib.hid hi
        clear hi hL
        obtain ⟨_, rfl, _, rfl, _, rfl, _, rfl, _, rfl, _, rfl, rfl⟩ := hl
        simp only [List.setIfInBounds_toArray, List.set_cons_zero, List.set_cons_succ]
        have HX := Lib.hid (Whole.under HB.out HB1.out HB1.out.lt)
        have HR := Lib.hid (Whole.under HB.out HB0.out HB0.out.lt)
        have HBB := Lib.hid (HBW.out.trans (HB.out.mono HBW.out.size))
        clear HB HB0 HB1 HBW c0
        go_wp2_with (refine wpList_store_blk rfl 24 _ _ rfl (w.heap.size + 1) 0 (.agg #[.int .u64 t.a, .int .u64 t.b, .int .u64 t.c, .int .u64 t.d]) rfl rfl 24 _ HX.out (by simp [Value.cells]) size24 rfl ?_; intro w2 S2 W2; rw [splice_all _ _ (by rfl)] at W2; have HS2 := Lib.hid S2; have HW2 := Lib.hid (show Whole w2 (w.heap.size + 1) 24 #[.int .u64 t.a, .int .u64 t.b, .int .u64 t.c, .int .u64 t.d] from W2); clear S2 W2 HX)
        go_roundw
        case rel => exact ⟨n + 1, t, by omega, by go_num, by rw [take_snoc HY.out, List.foldl_append, ← HSE.out]; exact HT.out.symm, HS2.out.whole HR.out (by omega), HW2.out, HBB.out.trans (HS2.out.below (by omega))⟩
        case measure => simp [intOf]; omega
    · obtain rfl : n = N := by omega
      go_wp2_with (first | (refine wpList_load_row rfl 24 _ rfl (w.heap.size + 1) rfl 24 _ (0, 0) _ HB1.out Tryd.underlying24 rfl size24 ?_) | (refine wpList_store_blk rfl 24 _ _ rfl (w.heap.size) 0 (.agg #[.int .u64 s.a, .int .u64 s.b, .int .u64 s.c, .int .u64 s.d]) rfl rfl 24 _ HB0.out (by simp [Value.cells]) size24 rfl ?_; intro w3 S3 W3; rw [splice_all _ _ (by rfl)] at W3; have HS3 := Lib.hid S3; have HW3 := Lib.hid (show Whole w3 w.heap.size 24 #[.int .u64 s.a, .int .u64 s.b, .int .u64 s.c, .int .u64 s.d] from W3); clear S3 W3))
      have e0 : w3.cell? ⟨w.heap.size, 0, none⟩ = some (.int .u64 s.a) := HW3.out.cell 0
      have e1 : w3.cell? ⟨w.heap.size, 1, none⟩ = some (.int .u64 s.b) := HW3.out.cell 1
      have e2 : w3.cell? ⟨w.heap.size, 2, none⟩ = some (.int .u64 s.c) := HW3.out.cell 2
      have e3 : w3.cell? ⟨w.heap.size, 3, none⟩ = some (.int .u64 s.d) := HW3.out.cell 3
      have hs : s = ofs l := by
        have h := HSE.out
        rw [List.take_of_length_le (by rw [HN.out]; exact Nat.le_refl _)] at h
        exact h
      refine bodyPost_ret (v := .agg #[.int .u64 s.a, .int .u64 s.b, .int .u64 s.c, .int .u64 s.d]) ?_ rfl ⟨by rw [hs], HBW.out.trans (HS3.out.below (Nat.le_refl _))⟩
      simp [results, Tryd.results29, go_sem, e0, e1, e2, e3]
end Go.Proofs.YtmkfabdkadocdaaDoor
