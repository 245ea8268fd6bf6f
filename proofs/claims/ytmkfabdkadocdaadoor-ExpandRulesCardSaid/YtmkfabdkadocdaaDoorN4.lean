import Derived.Test.YtmkfabdkadocdaaDoorN3
/-
  The reference's entry.
-/
namespace Go.Proofs.YtmkfabdkadocdaaDoor
open Go Go.RowKit

theorem size61 : (Tryd.prog.info? 61).map (·.size) = some 7 := by kernel_rfl
theorem size25 : (Tryd.prog.info? 25).map (·.size) = some 1 := by kernel_rfl
set_option maxRecDepth 100000 in
set_option maxHeartbeats 4000000 in
theorem entry_1 (w : World) (r : ARule) (a b : Int) (h : r.kind = 1) : Calls Tryd.prog 31 #[.agg #[.int .i64 r.kind, .int .u64 r.src.a, .int .u64 r.src.b, .int .u64 r.src.c, .int .u64 r.src.d, .int .u64 r.tgt.a, .int .u64 r.tgt.b, .int .u64 r.tgt.c, .int .u64 r.tgt.d, .bool r.self, .int .i64 r.cls, .int .u32 r.perms, .int .i64 r.cond], .agg #[.int .i64 a, .int .i64 b]] w fun e w' => e = .returned (.agg #[.int .i64 a, .int .i64 b, .int .i64 r.cls, .int .i64 r.cond, .int .u32 r.perms, .int .u32 0, .int .u32 0]) ∧ Below w.heap.size w w' := by
  obtain ⟨wo, hwo⟩ : ∃ wo, wo = ((w.alloc (.cells #[.int .i64 r.kind, .int .u64 r.src.a, .int .u64 r.src.b, .int .u64 r.src.c, .int .u64 r.src.d, .int .u64 r.tgt.a, .int .u64 r.tgt.b, .int .u64 r.tgt.c, .int .u64 r.tgt.d, .bool r.self, .int .i64 r.cls, .int .u32 r.perms, .int .i64 r.cond] 27)).alloc (.cells #[.int .i64 a, .int .i64 b] 63)).alloc (.cells #[.int .i64 0, .int .i64 0, .int .i64 0, .int .i64 0, .int .u32 0, .int .u32 0, .int .u32 0] 61) := ⟨_, rfl⟩
  have HR0 := Lib.hid (show Whole wo w.heap.size 27 #[.int .i64 r.kind, .int .u64 r.src.a, .int .u64 r.src.b, .int .u64 r.src.c, .int .u64 r.src.d, .int .u64 r.tgt.a, .int .u64 r.tgt.b, .int .u64 r.tgt.c, .int .u64 r.tgt.d, .bool r.self, .int .i64 r.cls, .int .u32 r.perms, .int .i64 r.cond] by rw [hwo]; exact ((Whole.new w 27 #[.int .i64 r.kind, .int .u64 r.src.a, .int .u64 r.src.b, .int .u64 r.src.c, .int .u64 r.src.d, .int .u64 r.tgt.a, .int .u64 r.tgt.b, .int .u64 r.tgt.c, .int .u64 r.tgt.d, .bool r.self, .int .i64 r.cls, .int .u32 r.perms, .int .i64 r.cond]).alloc _).alloc _)
  have HP0 := Lib.hid (show Whole wo (w.heap.size + 1) 63 #[.int .i64 a, .int .i64 b] by rw [hwo]; exact (whole_two w _ #[.int .i64 a, .int .i64 b] _).alloc _)
  have HE0 := Lib.hid (show Whole wo (w.heap.size + 2) 61 #[.int .i64 0, .int .i64 0, .int .i64 0, .int .i64 0, .int .u32 0, .int .u32 0, .int .u32 0] by rw [hwo]; exact whole_three w _ _ #[.int .i64 0, .int .i64 0, .int .i64 0, .int .i64 0, .int .u32 0, .int .u32 0, .int .u32 0] _)
  have HBO := Lib.hid (show Below w.heap.size w wo by rw [hwo]; exact (((Below.refl _ w).alloc (Nat.le_refl _) _).alloc (by simp) _).alloc (by simp; omega) _)
  have HN0 := Lib.hid (show wo.heap.size = w.heap.size + 3 by rw [hwo]; simp)
  have HKK := Lib.hid h
  clear h
  have k0 : wo.cell? ⟨w.heap.size, 0, none⟩ = some (.int .i64 1) := (by have h1 := HR0.out.cell 0; rw [HKK.out] at h1; exact h1)
  have k10 : wo.cell? ⟨w.heap.size, 10, none⟩ = some (.int .i64 r.cls) := HR0.out.cell 10
  have k11 : wo.cell? ⟨w.heap.size, 11, none⟩ = some (.int .u32 r.perms) := HR0.out.cell 11
  have k12 : wo.cell? ⟨w.heap.size, 12, none⟩ = some (.int .i64 r.cond) := HR0.out.cell 12
  have p0 : wo.cell? ⟨w.heap.size + 1, 0, none⟩ = some (.int .i64 a) := HP0.out.cell 0
  have p1 : wo.cell? ⟨w.heap.size + 1, 1, none⟩ = some (.int .i64 b) := HP0.out.cell 1
  go_enter Tryd.func31, Tryd.ntmps31
  go_upto_region 1 with (fail)
  rw [← hwo]
  clear hwo
  go_wp2_with (first | (refine wpList_store_blk rfl 61 _ _ rfl (wo.heap.size) 0 (.agg #[.int .i64 a, .int .i64 b, .int .i64 r.cls, .int .i64 r.cond, .int .u32 0, .int .u32 0, .int .u32 0]) rfl rfl 61 _ (Whole.new wo 61 #[.int .i64 0, .int .i64 0, .int .i64 0, .int .i64 0, .int .u32 0, .int .u32 0, .int .u32 0]) (by simp [Value.cells]) size61 rfl ?_; intro w1 S1 W1; rw [splice_all _ _ (by rfl)] at W1; have HS1 := Lib.hid S1; have HW1 := Lib.hid (show Whole w1 wo.heap.size 61 #[.int .i64 a, .int .i64 b, .int .i64 r.cls, .int .i64 r.cond, .int .u32 0, .int .u32 0, .int .u32 0] from W1); clear S1 W1 k0 k10 k11 k12 p0 p1; have HR1 := Lib.hid (HS1.out.whole (HR0.out.alloc _) (by have := HN0.out; omega)); have HE1 := Lib.hid (HS1.out.whole (HE0.out.alloc _) (by have := HN0.out; omega)); have k0 : w1.cell? ⟨w.heap.size, 0, none⟩ = some (.int .i64 1) := (by have h1 := HR1.out.cell 0; rw [HKK.out] at h1; exact h1); have k10 : w1.cell? ⟨w.heap.size, 10, none⟩ = some (.int .i64 r.cls) := HR1.out.cell 10; have k11 : w1.cell? ⟨w.heap.size, 11, none⟩ = some (.int .u32 r.perms) := HR1.out.cell 11; have k12 : w1.cell? ⟨w.heap.size, 12, none⟩ = some (.int .i64 r.cond) := HR1.out.cell 12) | (have hZ := HW1; clear hZ; refine wpList_store_blk rfl 25 _ _ rfl (wo.heap.size) 4 (.int .u32 r.perms) rfl rfl 61 _ HW1.out (by simp [Value.cells]) size25 rfl ?_; intro w2 S2 W2; have HS2 := Lib.hid S2; have HW2 := Lib.hid (show Whole w2 wo.heap.size 61 #[.int .i64 a, .int .i64 b, .int .i64 r.cls, .int .i64 r.cond, .int .u32 r.perms, .int .u32 0, .int .u32 0] from W2); clear S2 W2 HW1 k0 k10 k11 k12; have HR2 := Lib.hid (HS2.out.whole HR1.out (by have := HN0.out; omega)); have HE2 := Lib.hid (HS2.out.whole HE1.out (by have := HN0.out; omega)); have k0 : w2.cell? ⟨w.heap.size, 0, none⟩ = some (.int .i64 1) := (by have h1 := HR2.out.cell 0; rw [HKK.out] at h1; exact h1); have k10 : w2.cell? ⟨w.heap.size, 10, none⟩ = some (.int .i64 r.cls) := HR2.out.cell 10; have k11 : w2.cell? ⟨w.heap.size, 11, none⟩ = some (.int .u32 r.perms) := HR2.out.cell 11; have k12 : w2.cell? ⟨w.heap.size, 12, none⟩ = some (.int .i64 r.cond) := HR2.out.cell 12) | (have hZ := HW2; clear hZ; refine wpList_load_row rfl 61 _ rfl (wo.heap.size) rfl 61 _ (0, 0) _ HW2.out Tryd.underlying61 rfl size61 ?_) | (have hZ := HE2; clear hZ; refine wpList_store_blk rfl 61 _ _ rfl (w.heap.size + 2) 0 (.agg #[.int .i64 a, .int .i64 b, .int .i64 r.cls, .int .i64 r.cond, .int .u32 r.perms, .int .u32 0, .int .u32 0]) rfl rfl 61 _ HE2.out (by simp [Value.cells]) size61 rfl ?_; intro w3 S3 W3; rw [splice_all _ _ (by rfl)] at W3; have HS3 := Lib.hid S3; have HW3 := Lib.hid (show Whole w3 (w.heap.size + 2) 61 #[.int .i64 a, .int .i64 b, .int .i64 r.cls, .int .i64 r.cond, .int .u32 r.perms, .int .u32 0, .int .u32 0] from W3); clear S3 W3 HE2))
  have e0 : w3.cell? ⟨w.heap.size + 1 + 1, 0, none⟩ = some (.int .i64 a) := HW3.out.cell 0
  have e1 : w3.cell? ⟨w.heap.size + 1 + 1, 1, none⟩ = some (.int .i64 b) := HW3.out.cell 1
  have e2 : w3.cell? ⟨w.heap.size + 1 + 1, 2, none⟩ = some (.int .i64 r.cls) := HW3.out.cell 2
  have e3 : w3.cell? ⟨w.heap.size + 1 + 1, 3, none⟩ = some (.int .i64 r.cond) := HW3.out.cell 3
  have e4 : w3.cell? ⟨w.heap.size + 1 + 1, 4, none⟩ = some (.int .u32 r.perms) := HW3.out.cell 4
  have e5 : w3.cell? ⟨w.heap.size + 1 + 1, 5, none⟩ = some (.int .u32 0) := HW3.out.cell 5
  have e6 : w3.cell? ⟨w.heap.size + 1 + 1, 6, none⟩ = some (.int .u32 0) := HW3.out.cell 6
  refine bodyPost_ret (v := .agg #[.int .i64 a, .int .i64 b, .int .i64 r.cls, .int .i64 r.cond, .int .u32 r.perms, .int .u32 0, .int .u32 0]) ?_ rfl ⟨rfl, (HBO.out.trans (((((Below.refl wo.heap.size wo).alloc (Nat.le_refl _) _).trans (HS1.out.below (Nat.le_refl _))).trans (HS2.out.below (Nat.le_refl _))).mono (by have := HN0.out; omega))).trans (HS3.out.below (by omega))⟩
  simp [results, Tryd.results31, go_sem, e0, e1, e2, e3, e4, e5, e6]
set_option maxRecDepth 100000 in
set_option maxHeartbeats 4000000 in
theorem entry_2 (w : World) (r : ARule) (a b : Int) (h : r.kind = 2) : Calls Tryd.prog 31 #[.agg #[.int .i64 r.kind, .int .u64 r.src.a, .int .u64 r.src.b, .int .u64 r.src.c, .int .u64 r.src.d, .int .u64 r.tgt.a, .int .u64 r.tgt.b, .int .u64 r.tgt.c, .int .u64 r.tgt.d, .bool r.self, .int .i64 r.cls, .int .u32 r.perms, .int .i64 r.cond], .agg #[.int .i64 a, .int .i64 b]] w fun e w' => e = .returned (.agg #[.int .i64 a, .int .i64 b, .int .i64 r.cls, .int .i64 r.cond, .int .u32 0, .int .u32 r.perms, .int .u32 0]) ∧ Below w.heap.size w w' := by
  obtain ⟨wo, hwo⟩ : ∃ wo, wo = ((w.alloc (.cells #[.int .i64 r.kind, .int .u64 r.src.a, .int .u64 r.src.b, .int .u64 r.src.c, .int .u64 r.src.d, .int .u64 r.tgt.a, .int .u64 r.tgt.b, .int .u64 r.tgt.c, .int .u64 r.tgt.d, .bool r.self, .int .i64 r.cls, .int .u32 r.perms, .int .i64 r.cond] 27)).alloc (.cells #[.int .i64 a, .int .i64 b] 63)).alloc (.cells #[.int .i64 0, .int .i64 0, .int .i64 0, .int .i64 0, .int .u32 0, .int .u32 0, .int .u32 0] 61) := ⟨_, rfl⟩
  have HR0 := Lib.hid (show Whole wo w.heap.size 27 #[.int .i64 r.kind, .int .u64 r.src.a, .int .u64 r.src.b, .int .u64 r.src.c, .int .u64 r.src.d, .int .u64 r.tgt.a, .int .u64 r.tgt.b, .int .u64 r.tgt.c, .int .u64 r.tgt.d, .bool r.self, .int .i64 r.cls, .int .u32 r.perms, .int .i64 r.cond] by rw [hwo]; exact ((Whole.new w 27 #[.int .i64 r.kind, .int .u64 r.src.a, .int .u64 r.src.b, .int .u64 r.src.c, .int .u64 r.src.d, .int .u64 r.tgt.a, .int .u64 r.tgt.b, .int .u64 r.tgt.c, .int .u64 r.tgt.d, .bool r.self, .int .i64 r.cls, .int .u32 r.perms, .int .i64 r.cond]).alloc _).alloc _)
  have HP0 := Lib.hid (show Whole wo (w.heap.size + 1) 63 #[.int .i64 a, .int .i64 b] by rw [hwo]; exact (whole_two w _ #[.int .i64 a, .int .i64 b] _).alloc _)
  have HE0 := Lib.hid (show Whole wo (w.heap.size + 2) 61 #[.int .i64 0, .int .i64 0, .int .i64 0, .int .i64 0, .int .u32 0, .int .u32 0, .int .u32 0] by rw [hwo]; exact whole_three w _ _ #[.int .i64 0, .int .i64 0, .int .i64 0, .int .i64 0, .int .u32 0, .int .u32 0, .int .u32 0] _)
  have HBO := Lib.hid (show Below w.heap.size w wo by rw [hwo]; exact (((Below.refl _ w).alloc (Nat.le_refl _) _).alloc (by simp) _).alloc (by simp; omega) _)
  have HN0 := Lib.hid (show wo.heap.size = w.heap.size + 3 by rw [hwo]; simp)
  have HKK := Lib.hid h
  clear h
  have k0 : wo.cell? ⟨w.heap.size, 0, none⟩ = some (.int .i64 2) := (by have h1 := HR0.out.cell 0; rw [HKK.out] at h1; exact h1)
  have k10 : wo.cell? ⟨w.heap.size, 10, none⟩ = some (.int .i64 r.cls) := HR0.out.cell 10
  have k11 : wo.cell? ⟨w.heap.size, 11, none⟩ = some (.int .u32 r.perms) := HR0.out.cell 11
  have k12 : wo.cell? ⟨w.heap.size, 12, none⟩ = some (.int .i64 r.cond) := HR0.out.cell 12
  have p0 : wo.cell? ⟨w.heap.size + 1, 0, none⟩ = some (.int .i64 a) := HP0.out.cell 0
  have p1 : wo.cell? ⟨w.heap.size + 1, 1, none⟩ = some (.int .i64 b) := HP0.out.cell 1
  go_enter Tryd.func31, Tryd.ntmps31
  go_upto_region 1 with (fail)
  rw [← hwo]
  clear hwo
  go_wp2_with (first | (refine wpList_store_blk rfl 61 _ _ rfl (wo.heap.size) 0 (.agg #[.int .i64 a, .int .i64 b, .int .i64 r.cls, .int .i64 r.cond, .int .u32 0, .int .u32 0, .int .u32 0]) rfl rfl 61 _ (Whole.new wo 61 #[.int .i64 0, .int .i64 0, .int .i64 0, .int .i64 0, .int .u32 0, .int .u32 0, .int .u32 0]) (by simp [Value.cells]) size61 rfl ?_; intro w1 S1 W1; rw [splice_all _ _ (by rfl)] at W1; have HS1 := Lib.hid S1; have HW1 := Lib.hid (show Whole w1 wo.heap.size 61 #[.int .i64 a, .int .i64 b, .int .i64 r.cls, .int .i64 r.cond, .int .u32 0, .int .u32 0, .int .u32 0] from W1); clear S1 W1 k0 k10 k11 k12 p0 p1; have HR1 := Lib.hid (HS1.out.whole (HR0.out.alloc _) (by have := HN0.out; omega)); have HE1 := Lib.hid (HS1.out.whole (HE0.out.alloc _) (by have := HN0.out; omega)); have k0 : w1.cell? ⟨w.heap.size, 0, none⟩ = some (.int .i64 2) := (by have h1 := HR1.out.cell 0; rw [HKK.out] at h1; exact h1); have k10 : w1.cell? ⟨w.heap.size, 10, none⟩ = some (.int .i64 r.cls) := HR1.out.cell 10; have k11 : w1.cell? ⟨w.heap.size, 11, none⟩ = some (.int .u32 r.perms) := HR1.out.cell 11; have k12 : w1.cell? ⟨w.heap.size, 12, none⟩ = some (.int .i64 r.cond) := HR1.out.cell 12) | (have hZ := HW1; clear hZ; refine wpList_store_blk rfl 25 _ _ rfl (wo.heap.size) 5 (.int .u32 r.perms) rfl rfl 61 _ HW1.out (by simp [Value.cells]) size25 rfl ?_; intro w2 S2 W2; have HS2 := Lib.hid S2; have HW2 := Lib.hid (show Whole w2 wo.heap.size 61 #[.int .i64 a, .int .i64 b, .int .i64 r.cls, .int .i64 r.cond, .int .u32 0, .int .u32 r.perms, .int .u32 0] from W2); clear S2 W2 HW1 k0 k10 k11 k12; have HR2 := Lib.hid (HS2.out.whole HR1.out (by have := HN0.out; omega)); have HE2 := Lib.hid (HS2.out.whole HE1.out (by have := HN0.out; omega)); have k0 : w2.cell? ⟨w.heap.size, 0, none⟩ = some (.int .i64 2) := (by have h1 := HR2.out.cell 0; rw [HKK.out] at h1; exact h1); have k10 : w2.cell? ⟨w.heap.size, 10, none⟩ = some (.int .i64 r.cls) := HR2.out.cell 10; have k11 : w2.cell? ⟨w.heap.size, 11, none⟩ = some (.int .u32 r.perms) := HR2.out.cell 11; have k12 : w2.cell? ⟨w.heap.size, 12, none⟩ = some (.int .i64 r.cond) := HR2.out.cell 12) | (have hZ := HW2; clear hZ; refine wpList_load_row rfl 61 _ rfl (wo.heap.size) rfl 61 _ (0, 0) _ HW2.out Tryd.underlying61 rfl size61 ?_) | (have hZ := HE2; clear hZ; refine wpList_store_blk rfl 61 _ _ rfl (w.heap.size + 2) 0 (.agg #[.int .i64 a, .int .i64 b, .int .i64 r.cls, .int .i64 r.cond, .int .u32 0, .int .u32 r.perms, .int .u32 0]) rfl rfl 61 _ HE2.out (by simp [Value.cells]) size61 rfl ?_; intro w3 S3 W3; rw [splice_all _ _ (by rfl)] at W3; have HS3 := Lib.hid S3; have HW3 := Lib.hid (show Whole w3 (w.heap.size + 2) 61 #[.int .i64 a, .int .i64 b, .int .i64 r.cls, .int .i64 r.cond, .int .u32 0, .int .u32 r.perms, .int .u32 0] from W3); clear S3 W3 HE2))
  have e0 : w3.cell? ⟨w.heap.size + 1 + 1, 0, none⟩ = some (.int .i64 a) := HW3.out.cell 0
  have e1 : w3.cell? ⟨w.heap.size + 1 + 1, 1, none⟩ = some (.int .i64 b) := HW3.out.cell 1
  have e2 : w3.cell? ⟨w.heap.size + 1 + 1, 2, none⟩ = some (.int .i64 r.cls) := HW3.out.cell 2
  have e3 : w3.cell? ⟨w.heap.size + 1 + 1, 3, none⟩ = some (.int .i64 r.cond) := HW3.out.cell 3
  have e4 : w3.cell? ⟨w.heap.size + 1 + 1, 4, none⟩ = some (.int .u32 0) := HW3.out.cell 4
  have e5 : w3.cell? ⟨w.heap.size + 1 + 1, 5, none⟩ = some (.int .u32 r.perms) := HW3.out.cell 5
  have e6 : w3.cell? ⟨w.heap.size + 1 + 1, 6, none⟩ = some (.int .u32 0) := HW3.out.cell 6
  refine bodyPost_ret (v := .agg #[.int .i64 a, .int .i64 b, .int .i64 r.cls, .int .i64 r.cond, .int .u32 0, .int .u32 r.perms, .int .u32 0]) ?_ rfl ⟨rfl, (HBO.out.trans (((((Below.refl wo.heap.size wo).alloc (Nat.le_refl _) _).trans (HS1.out.below (Nat.le_refl _))).trans (HS2.out.below (Nat.le_refl _))).mono (by have := HN0.out; omega))).trans (HS3.out.below (by omega))⟩
  simp [results, Tryd.results31, go_sem, e0, e1, e2, e3, e4, e5, e6]
set_option maxRecDepth 100000 in
set_option maxHeartbeats 4000000 in
theorem entry_3 (w : World) (r : ARule) (a b : Int) (h : r.kind = 3) : Calls Tryd.prog 31 #[.agg #[.int .i64 r.kind, .int .u64 r.src.a, .int .u64 r.src.b, .int .u64 r.src.c, .int .u64 r.src.d, .int .u64 r.tgt.a, .int .u64 r.tgt.b, .int .u64 r.tgt.c, .int .u64 r.tgt.d, .bool r.self, .int .i64 r.cls, .int .u32 r.perms, .int .i64 r.cond], .agg #[.int .i64 a, .int .i64 b]] w fun e w' => e = .returned (.agg #[.int .i64 a, .int .i64 b, .int .i64 r.cls, .int .i64 r.cond, .int .u32 0, .int .u32 0, .int .u32 r.perms]) ∧ Below w.heap.size w w' := by
  obtain ⟨wo, hwo⟩ : ∃ wo, wo = ((w.alloc (.cells #[.int .i64 r.kind, .int .u64 r.src.a, .int .u64 r.src.b, .int .u64 r.src.c, .int .u64 r.src.d, .int .u64 r.tgt.a, .int .u64 r.tgt.b, .int .u64 r.tgt.c, .int .u64 r.tgt.d, .bool r.self, .int .i64 r.cls, .int .u32 r.perms, .int .i64 r.cond] 27)).alloc (.cells #[.int .i64 a, .int .i64 b] 63)).alloc (.cells #[.int .i64 0, .int .i64 0, .int .i64 0, .int .i64 0, .int .u32 0, .int .u32 0, .int .u32 0] 61) := ⟨_, rfl⟩
  have HR0 := Lib.hid (show Whole wo w.heap.size 27 #[.int .i64 r.kind, .int .u64 r.src.a, .int .u64 r.src.b, .int .u64 r.src.c, .int .u64 r.src.d, .int .u64 r.tgt.a, .int .u64 r.tgt.b, .int .u64 r.tgt.c, .int .u64 r.tgt.d, .bool r.self, .int .i64 r.cls, .int .u32 r.perms, .int .i64 r.cond] by rw [hwo]; exact ((Whole.new w 27 #[.int .i64 r.kind, .int .u64 r.src.a, .int .u64 r.src.b, .int .u64 r.src.c, .int .u64 r.src.d, .int .u64 r.tgt.a, .int .u64 r.tgt.b, .int .u64 r.tgt.c, .int .u64 r.tgt.d, .bool r.self, .int .i64 r.cls, .int .u32 r.perms, .int .i64 r.cond]).alloc _).alloc _)
  have HP0 := Lib.hid (show Whole wo (w.heap.size + 1) 63 #[.int .i64 a, .int .i64 b] by rw [hwo]; exact (whole_two w _ #[.int .i64 a, .int .i64 b] _).alloc _)
  have HE0 := Lib.hid (show Whole wo (w.heap.size + 2) 61 #[.int .i64 0, .int .i64 0, .int .i64 0, .int .i64 0, .int .u32 0, .int .u32 0, .int .u32 0] by rw [hwo]; exact whole_three w _ _ #[.int .i64 0, .int .i64 0, .int .i64 0, .int .i64 0, .int .u32 0, .int .u32 0, .int .u32 0] _)
  have HBO := Lib.hid (show Below w.heap.size w wo by rw [hwo]; exact (((Below.refl _ w).alloc (Nat.le_refl _) _).alloc (by simp) _).alloc (by simp; omega) _)
  have HN0 := Lib.hid (show wo.heap.size = w.heap.size + 3 by rw [hwo]; simp)
  have HKK := Lib.hid h
  clear h
  have k0 : wo.cell? ⟨w.heap.size, 0, none⟩ = some (.int .i64 3) := (by have h1 := HR0.out.cell 0; rw [HKK.out] at h1; exact h1)
  have k10 : wo.cell? ⟨w.heap.size, 10, none⟩ = some (.int .i64 r.cls) := HR0.out.cell 10
  have k11 : wo.cell? ⟨w.heap.size, 11, none⟩ = some (.int .u32 r.perms) := HR0.out.cell 11
  have k12 : wo.cell? ⟨w.heap.size, 12, none⟩ = some (.int .i64 r.cond) := HR0.out.cell 12
  have p0 : wo.cell? ⟨w.heap.size + 1, 0, none⟩ = some (.int .i64 a) := HP0.out.cell 0
  have p1 : wo.cell? ⟨w.heap.size + 1, 1, none⟩ = some (.int .i64 b) := HP0.out.cell 1
  go_enter Tryd.func31, Tryd.ntmps31
  go_upto_region 1 with (fail)
  rw [← hwo]
  clear hwo
  go_wp2_with (first | (refine wpList_store_blk rfl 61 _ _ rfl (wo.heap.size) 0 (.agg #[.int .i64 a, .int .i64 b, .int .i64 r.cls, .int .i64 r.cond, .int .u32 0, .int .u32 0, .int .u32 0]) rfl rfl 61 _ (Whole.new wo 61 #[.int .i64 0, .int .i64 0, .int .i64 0, .int .i64 0, .int .u32 0, .int .u32 0, .int .u32 0]) (by simp [Value.cells]) size61 rfl ?_; intro w1 S1 W1; rw [splice_all _ _ (by rfl)] at W1; have HS1 := Lib.hid S1; have HW1 := Lib.hid (show Whole w1 wo.heap.size 61 #[.int .i64 a, .int .i64 b, .int .i64 r.cls, .int .i64 r.cond, .int .u32 0, .int .u32 0, .int .u32 0] from W1); clear S1 W1 k0 k10 k11 k12 p0 p1; have HR1 := Lib.hid (HS1.out.whole (HR0.out.alloc _) (by have := HN0.out; omega)); have HE1 := Lib.hid (HS1.out.whole (HE0.out.alloc _) (by have := HN0.out; omega)); have k0 : w1.cell? ⟨w.heap.size, 0, none⟩ = some (.int .i64 3) := (by have h1 := HR1.out.cell 0; rw [HKK.out] at h1; exact h1); have k10 : w1.cell? ⟨w.heap.size, 10, none⟩ = some (.int .i64 r.cls) := HR1.out.cell 10; have k11 : w1.cell? ⟨w.heap.size, 11, none⟩ = some (.int .u32 r.perms) := HR1.out.cell 11; have k12 : w1.cell? ⟨w.heap.size, 12, none⟩ = some (.int .i64 r.cond) := HR1.out.cell 12) | (have hZ := HW1; clear hZ; refine wpList_store_blk rfl 25 _ _ rfl (wo.heap.size) 6 (.int .u32 r.perms) rfl rfl 61 _ HW1.out (by simp [Value.cells]) size25 rfl ?_; intro w2 S2 W2; have HS2 := Lib.hid S2; have HW2 := Lib.hid (show Whole w2 wo.heap.size 61 #[.int .i64 a, .int .i64 b, .int .i64 r.cls, .int .i64 r.cond, .int .u32 0, .int .u32 0, .int .u32 r.perms] from W2); clear S2 W2 HW1 k0 k10 k11 k12; have HR2 := Lib.hid (HS2.out.whole HR1.out (by have := HN0.out; omega)); have HE2 := Lib.hid (HS2.out.whole HE1.out (by have := HN0.out; omega)); have k0 : w2.cell? ⟨w.heap.size, 0, none⟩ = some (.int .i64 3) := (by have h1 := HR2.out.cell 0; rw [HKK.out] at h1; exact h1); have k10 : w2.cell? ⟨w.heap.size, 10, none⟩ = some (.int .i64 r.cls) := HR2.out.cell 10; have k11 : w2.cell? ⟨w.heap.size, 11, none⟩ = some (.int .u32 r.perms) := HR2.out.cell 11; have k12 : w2.cell? ⟨w.heap.size, 12, none⟩ = some (.int .i64 r.cond) := HR2.out.cell 12) | (have hZ := HW2; clear hZ; refine wpList_load_row rfl 61 _ rfl (wo.heap.size) rfl 61 _ (0, 0) _ HW2.out Tryd.underlying61 rfl size61 ?_) | (have hZ := HE2; clear hZ; refine wpList_store_blk rfl 61 _ _ rfl (w.heap.size + 2) 0 (.agg #[.int .i64 a, .int .i64 b, .int .i64 r.cls, .int .i64 r.cond, .int .u32 0, .int .u32 0, .int .u32 r.perms]) rfl rfl 61 _ HE2.out (by simp [Value.cells]) size61 rfl ?_; intro w3 S3 W3; rw [splice_all _ _ (by rfl)] at W3; have HS3 := Lib.hid S3; have HW3 := Lib.hid (show Whole w3 (w.heap.size + 2) 61 #[.int .i64 a, .int .i64 b, .int .i64 r.cls, .int .i64 r.cond, .int .u32 0, .int .u32 0, .int .u32 r.perms] from W3); clear S3 W3 HE2))
  have e0 : w3.cell? ⟨w.heap.size + 1 + 1, 0, none⟩ = some (.int .i64 a) := HW3.out.cell 0
  have e1 : w3.cell? ⟨w.heap.size + 1 + 1, 1, none⟩ = some (.int .i64 b) := HW3.out.cell 1
  have e2 : w3.cell? ⟨w.heap.size + 1 + 1, 2, none⟩ = some (.int .i64 r.cls) := HW3.out.cell 2
  have e3 : w3.cell? ⟨w.heap.size + 1 + 1, 3, none⟩ = some (.int .i64 r.cond) := HW3.out.cell 3
  have e4 : w3.cell? ⟨w.heap.size + 1 + 1, 4, none⟩ = some (.int .u32 0) := HW3.out.cell 4
  have e5 : w3.cell? ⟨w.heap.size + 1 + 1, 5, none⟩ = some (.int .u32 0) := HW3.out.cell 5
  have e6 : w3.cell? ⟨w.heap.size + 1 + 1, 6, none⟩ = some (.int .u32 r.perms) := HW3.out.cell 6
  refine bodyPost_ret (v := .agg #[.int .i64 a, .int .i64 b, .int .i64 r.cls, .int .i64 r.cond, .int .u32 0, .int .u32 0, .int .u32 r.perms]) ?_ rfl ⟨rfl, (HBO.out.trans (((((Below.refl wo.heap.size wo).alloc (Nat.le_refl _) _).trans (HS1.out.below (Nat.le_refl _))).trans (HS2.out.below (Nat.le_refl _))).mono (by have := HN0.out; omega))).trans (HS3.out.below (by omega))⟩
  simp [results, Tryd.results31, go_sem, e0, e1, e2, e3, e4, e5, e6]
set_option maxRecDepth 100000 in
set_option maxHeartbeats 4000000 in
theorem entry_4 (w : World) (r : ARule) (a b : Int) (h1 : ¬ r.kind = 1) (h2 : ¬ r.kind = 2) (h3 : ¬ r.kind = 3) : Calls Tryd.prog 31 #[.agg #[.int .i64 r.kind, .int .u64 r.src.a, .int .u64 r.src.b, .int .u64 r.src.c, .int .u64 r.src.d, .int .u64 r.tgt.a, .int .u64 r.tgt.b, .int .u64 r.tgt.c, .int .u64 r.tgt.d, .bool r.self, .int .i64 r.cls, .int .u32 r.perms, .int .i64 r.cond], .agg #[.int .i64 a, .int .i64 b]] w fun e w' => e = .returned (.agg #[.int .i64 a, .int .i64 b, .int .i64 r.cls, .int .i64 r.cond, .int .u32 0, .int .u32 0, .int .u32 0]) ∧ Below w.heap.size w w' := by
  obtain ⟨wo, hwo⟩ : ∃ wo, wo = ((w.alloc (.cells #[.int .i64 r.kind, .int .u64 r.src.a, .int .u64 r.src.b, .int .u64 r.src.c, .int .u64 r.src.d, .int .u64 r.tgt.a, .int .u64 r.tgt.b, .int .u64 r.tgt.c, .int .u64 r.tgt.d, .bool r.self, .int .i64 r.cls, .int .u32 r.perms, .int .i64 r.cond] 27)).alloc (.cells #[.int .i64 a, .int .i64 b] 63)).alloc (.cells #[.int .i64 0, .int .i64 0, .int .i64 0, .int .i64 0, .int .u32 0, .int .u32 0, .int .u32 0] 61) := ⟨_, rfl⟩
  have HR0 := Lib.hid (show Whole wo w.heap.size 27 #[.int .i64 r.kind, .int .u64 r.src.a, .int .u64 r.src.b, .int .u64 r.src.c, .int .u64 r.src.d, .int .u64 r.tgt.a, .int .u64 r.tgt.b, .int .u64 r.tgt.c, .int .u64 r.tgt.d, .bool r.self, .int .i64 r.cls, .int .u32 r.perms, .int .i64 r.cond] by rw [hwo]; exact ((Whole.new w 27 #[.int .i64 r.kind, .int .u64 r.src.a, .int .u64 r.src.b, .int .u64 r.src.c, .int .u64 r.src.d, .int .u64 r.tgt.a, .int .u64 r.tgt.b, .int .u64 r.tgt.c, .int .u64 r.tgt.d, .bool r.self, .int .i64 r.cls, .int .u32 r.perms, .int .i64 r.cond]).alloc _).alloc _)
  have HP0 := Lib.hid (show Whole wo (w.heap.size + 1) 63 #[.int .i64 a, .int .i64 b] by rw [hwo]; exact (whole_two w _ #[.int .i64 a, .int .i64 b] _).alloc _)
  have HE0 := Lib.hid (show Whole wo (w.heap.size + 2) 61 #[.int .i64 0, .int .i64 0, .int .i64 0, .int .i64 0, .int .u32 0, .int .u32 0, .int .u32 0] by rw [hwo]; exact whole_three w _ _ #[.int .i64 0, .int .i64 0, .int .i64 0, .int .i64 0, .int .u32 0, .int .u32 0, .int .u32 0] _)
  have HBO := Lib.hid (show Below w.heap.size w wo by rw [hwo]; exact (((Below.refl _ w).alloc (Nat.le_refl _) _).alloc (by simp) _).alloc (by simp; omega) _)
  have HN0 := Lib.hid (show wo.heap.size = w.heap.size + 3 by rw [hwo]; simp)
  have k0 : wo.cell? ⟨w.heap.size, 0, none⟩ = some (.int .i64 r.kind) := HR0.out.cell 0
  have k10 : wo.cell? ⟨w.heap.size, 10, none⟩ = some (.int .i64 r.cls) := HR0.out.cell 10
  have k11 : wo.cell? ⟨w.heap.size, 11, none⟩ = some (.int .u32 r.perms) := HR0.out.cell 11
  have k12 : wo.cell? ⟨w.heap.size, 12, none⟩ = some (.int .i64 r.cond) := HR0.out.cell 12
  have p0 : wo.cell? ⟨w.heap.size + 1, 0, none⟩ = some (.int .i64 a) := HP0.out.cell 0
  have p1 : wo.cell? ⟨w.heap.size + 1, 1, none⟩ = some (.int .i64 b) := HP0.out.cell 1
  go_enter Tryd.func31, Tryd.ntmps31
  go_upto_region 1 with (fail)
  rw [← hwo]
  clear hwo
  go_wp2_with (first | (refine wpList_store_blk rfl 61 _ _ rfl (wo.heap.size) 0 (.agg #[.int .i64 a, .int .i64 b, .int .i64 r.cls, .int .i64 r.cond, .int .u32 0, .int .u32 0, .int .u32 0]) rfl rfl 61 _ (Whole.new wo 61 #[.int .i64 0, .int .i64 0, .int .i64 0, .int .i64 0, .int .u32 0, .int .u32 0, .int .u32 0]) (by simp [Value.cells]) size61 rfl ?_; intro w1 S1 W1; rw [splice_all _ _ (by rfl)] at W1; have HS1 := Lib.hid S1; have HW1 := Lib.hid (show Whole w1 wo.heap.size 61 #[.int .i64 a, .int .i64 b, .int .i64 r.cls, .int .i64 r.cond, .int .u32 0, .int .u32 0, .int .u32 0] from W1); clear S1 W1 k0 k10 k11 k12 p0 p1; have HR1 := Lib.hid (HS1.out.whole (HR0.out.alloc _) (by have := HN0.out; omega)); have HE1 := Lib.hid (HS1.out.whole (HE0.out.alloc _) (by have := HN0.out; omega)); have k0 : w1.cell? ⟨w.heap.size, 0, none⟩ = some (.int .i64 r.kind) := HR1.out.cell 0; have k10 : w1.cell? ⟨w.heap.size, 10, none⟩ = some (.int .i64 r.cls) := HR1.out.cell 10; have k11 : w1.cell? ⟨w.heap.size, 11, none⟩ = some (.int .u32 r.perms) := HR1.out.cell 11; have k12 : w1.cell? ⟨w.heap.size, 12, none⟩ = some (.int .i64 r.cond) := HR1.out.cell 12) | (have hZ := HW1; clear hZ; refine wpList_load_row rfl 61 _ rfl (wo.heap.size) rfl 61 _ (0, 0) _ HW1.out Tryd.underlying61 rfl size61 ?_) | (have hZ := HE1; clear hZ; refine wpList_store_blk rfl 61 _ _ rfl (w.heap.size + 2) 0 (.agg #[.int .i64 a, .int .i64 b, .int .i64 r.cls, .int .i64 r.cond, .int .u32 0, .int .u32 0, .int .u32 0]) rfl rfl 61 _ HE1.out (by simp [Value.cells]) size61 rfl ?_; intro w3 S3 W3; rw [splice_all _ _ (by rfl)] at W3; have HS3 := Lib.hid S3; have HW3 := Lib.hid (show Whole w3 (w.heap.size + 2) 61 #[.int .i64 a, .int .i64 b, .int .i64 r.cls, .int .i64 r.cond, .int .u32 0, .int .u32 0, .int .u32 0] from W3); clear S3 W3 HE1))
  have e0 : w3.cell? ⟨w.heap.size + 1 + 1, 0, none⟩ = some (.int .i64 a) := HW3.out.cell 0
  have e1 : w3.cell? ⟨w.heap.size + 1 + 1, 1, none⟩ = some (.int .i64 b) := HW3.out.cell 1
  have e2 : w3.cell? ⟨w.heap.size + 1 + 1, 2, none⟩ = some (.int .i64 r.cls) := HW3.out.cell 2
  have e3 : w3.cell? ⟨w.heap.size + 1 + 1, 3, none⟩ = some (.int .i64 r.cond) := HW3.out.cell 3
  have e4 : w3.cell? ⟨w.heap.size + 1 + 1, 4, none⟩ = some (.int .u32 0) := HW3.out.cell 4
  have e5 : w3.cell? ⟨w.heap.size + 1 + 1, 5, none⟩ = some (.int .u32 0) := HW3.out.cell 5
  have e6 : w3.cell? ⟨w.heap.size + 1 + 1, 6, none⟩ = some (.int .u32 0) := HW3.out.cell 6
  refine bodyPost_ret (v := .agg #[.int .i64 a, .int .i64 b, .int .i64 r.cls, .int .i64 r.cond, .int .u32 0, .int .u32 0, .int .u32 0]) ?_ rfl ⟨rfl, (HBO.out.trans ((((Below.refl wo.heap.size wo).alloc (Nat.le_refl _) _).trans (HS1.out.below (Nat.le_refl _))).mono (by have := HN0.out; omega))).trans (HS3.out.below (by omega))⟩
  simp [results, Tryd.results31, go_sem, e0, e1, e2, e3, e4, e5, e6]
theorem entry_any (w : World) (r : ARule) (a b : Int) : Calls Tryd.prog 31 #[.agg #[.int .i64 r.kind, .int .u64 r.src.a, .int .u64 r.src.b, .int .u64 r.src.c, .int .u64 r.src.d, .int .u64 r.tgt.a, .int .u64 r.tgt.b, .int .u64 r.tgt.c, .int .u64 r.tgt.d, .bool r.self, .int .i64 r.cls, .int .u32 r.perms, .int .i64 r.cond], .agg #[.int .i64 a, .int .i64 b]] w fun e w' => e = .returned (.agg #[.int .i64 a, .int .i64 b, .int .i64 r.cls, .int .i64 r.cond, .int .u32 (vecOf r.kind r.perms).allow, .int .u32 (vecOf r.kind r.perms).audit, .int .u32 (vecOf r.kind r.perms).dont]) ∧ Below w.heap.size w w' := by
  unfold vecOf
  by_cases h1 : r.kind = 1
  · simp only [if_pos h1]; exact entry_1 w r a b h1
  · simp only [if_neg h1]
    by_cases h2 : r.kind = 2
    · simp only [if_pos h2]; exact entry_2 w r a b h2
    · simp only [if_neg h2]
      by_cases h3 : r.kind = 3
      · simp only [if_pos h3]; exact entry_3 w r a b h3
      · simp only [if_neg h3]; exact entry_4 w r a b h1 h2 h3
end Go.Proofs.YtmkfabdkadocdaaDoor
