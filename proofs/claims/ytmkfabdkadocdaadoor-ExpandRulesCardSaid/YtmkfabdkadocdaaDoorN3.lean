import Derived.Test.YtmkfabdkadocdaaDoorN2
/-
  vectors.or, of; the reference's before.
-/
namespace Go.Proofs.YtmkfabdkadocdaaDoor
open Go Go.RowKit

structure AVec where
  allow : Int
  audit : Int
  dont : Int
deriving DecidableEq
def AVec.or (u v : AVec) : AVec := ⟨bits .or .u32 u.allow v.allow, bits .or .u32 u.audit v.audit, bits .or .u32 u.dont v.dont⟩
/-- The vectors that a rule of a kind has. -/
def vecOf (k p : Int) : AVec := if k = 1 then ⟨p, 0, 0⟩ else if k = 2 then ⟨0, p, 0⟩ else if k = 3 then ⟨0, 0, p⟩ else ⟨0, 0, 0⟩
theorem whole_three (w : World) (o o2 : Obj) (cs : Array Value) (t : TypeId) : Whole (((w.alloc o).alloc o2).alloc (.cells cs t)) (w.heap.size + 2) t cs := by
  have := Whole.new ((w.alloc o).alloc o2) t cs
  simpa using this
theorem size73 : (Tryd.prog.info? 73).map (·.size) = some 3 := by kernel_rfl
set_option maxHeartbeats 2000000 in
theorem vor_any (w : World) (u v : AVec) : Calls Tryd.prog 34 #[.agg #[.int .u32 u.allow, .int .u32 u.audit, .int .u32 u.dont], .agg #[.int .u32 v.allow, .int .u32 v.audit, .int .u32 v.dont]] w fun e w' => e = .returned (.agg #[.int .u32 (u.or v).allow, .int .u32 (u.or v).audit, .int .u32 (u.or v).dont]) ∧ Below w.heap.size w w' := by
  go_enter Tryd.func34, Tryd.ntmps34
  go_wp2_with (refine wpList_store_blk rfl 73 _ _ rfl (w.heap.size + 2) 0 (.agg #[.int .u32 (bits .or .u32 u.allow v.allow), .int .u32 (bits .or .u32 u.audit v.audit), .int .u32 (bits .or .u32 u.dont v.dont)]) rfl rfl 73 _ (whole_three w _ _ #[.int .u32 0, .int .u32 0, .int .u32 0] _) (by simp [Value.cells]) size73 rfl ?_; intro w2 S2 W2; rw [splice_all _ _ (by rfl)] at W2; have HS2 := Lib.hid S2; have HW2 := Lib.hid (show Whole w2 (w.heap.size + 2) 73 #[.int .u32 (bits .or .u32 u.allow v.allow), .int .u32 (bits .or .u32 u.audit v.audit), .int .u32 (bits .or .u32 u.dont v.dont)] from W2); clear S2 W2)
  have e0 : w2.cell? ⟨w.heap.size + 1 + 1, 0, none⟩ = some (.int .u32 (bits .or .u32 u.allow v.allow)) := HW2.out.cell 0
  have e1 : w2.cell? ⟨w.heap.size + 1 + 1, 1, none⟩ = some (.int .u32 (bits .or .u32 u.audit v.audit)) := HW2.out.cell 1
  have e2 : w2.cell? ⟨w.heap.size + 1 + 1, 2, none⟩ = some (.int .u32 (bits .or .u32 u.dont v.dont)) := HW2.out.cell 2
  refine bodyPost_ret (v := .agg #[.int .u32 (bits .or .u32 u.allow v.allow), .int .u32 (bits .or .u32 u.audit v.audit), .int .u32 (bits .or .u32 u.dont v.dont)]) ?_ rfl ⟨rfl, ((((Below.refl _ w).alloc (Nat.le_refl _) _).alloc (by simp) _).alloc (by simp; omega) _).trans (HS2.out.below (by omega))⟩
  simp [results, Tryd.results34, go_sem, e0, e1, e2]
set_option maxHeartbeats 2000000 in
theorem of_1 (w : World) (k p : Int) (h : k = 1) : Calls Tryd.prog 33 #[.int .i64 k, .int .u32 p] w fun e w' => e = .returned (.agg #[.int .u32 p, .int .u32 0, .int .u32 0]) ∧ Below w.heap.size w w' := by
  subst h
  go_enter Tryd.func33, Tryd.ntmps33
  go_wp2_with (refine wpList_store_blk rfl 73 _ _ rfl (w.heap.size) 0 (.agg #[.int .u32 p, .int .u32 0, .int .u32 0]) rfl rfl 73 _ (Whole.new w 73 #[.int .u32 0, .int .u32 0, .int .u32 0]) (by simp [Value.cells]) size73 rfl ?_; intro w2 S2 W2; rw [splice_all _ _ (by rfl)] at W2; have HS2 := Lib.hid S2; have HW2 := Lib.hid (show Whole w2 (w.heap.size) 73 #[.int .u32 p, .int .u32 0, .int .u32 0] from W2); clear S2 W2)
  have e0 : w2.cell? ⟨w.heap.size, 0, none⟩ = some (.int .u32 p) := HW2.out.cell 0
  have e1 : w2.cell? ⟨w.heap.size, 1, none⟩ = some (.int .u32 0) := HW2.out.cell 1
  have e2 : w2.cell? ⟨w.heap.size, 2, none⟩ = some (.int .u32 0) := HW2.out.cell 2
  refine bodyPost_ret (v := .agg #[.int .u32 p, .int .u32 0, .int .u32 0]) ?_ rfl ⟨rfl, ((Below.refl _ w).alloc (Nat.le_refl _) _).trans (HS2.out.below (Nat.le_refl _))⟩
  simp [results, Tryd.results33, go_sem, e0, e1, e2]
set_option maxHeartbeats 2000000 in
theorem of_2 (w : World) (k p : Int) (h : k = 2) : Calls Tryd.prog 33 #[.int .i64 k, .int .u32 p] w fun e w' => e = .returned (.agg #[.int .u32 0, .int .u32 p, .int .u32 0]) ∧ Below w.heap.size w w' := by
  subst h
  go_enter Tryd.func33, Tryd.ntmps33
  go_wp2_with (refine wpList_store_blk rfl 73 _ _ rfl (w.heap.size) 0 (.agg #[.int .u32 0, .int .u32 p, .int .u32 0]) rfl rfl 73 _ (Whole.new w 73 #[.int .u32 0, .int .u32 0, .int .u32 0]) (by simp [Value.cells]) size73 rfl ?_; intro w2 S2 W2; rw [splice_all _ _ (by rfl)] at W2; have HS2 := Lib.hid S2; have HW2 := Lib.hid (show Whole w2 (w.heap.size) 73 #[.int .u32 0, .int .u32 p, .int .u32 0] from W2); clear S2 W2)
  have e0 : w2.cell? ⟨w.heap.size, 0, none⟩ = some (.int .u32 0) := HW2.out.cell 0
  have e1 : w2.cell? ⟨w.heap.size, 1, none⟩ = some (.int .u32 p) := HW2.out.cell 1
  have e2 : w2.cell? ⟨w.heap.size, 2, none⟩ = some (.int .u32 0) := HW2.out.cell 2
  refine bodyPost_ret (v := .agg #[.int .u32 0, .int .u32 p, .int .u32 0]) ?_ rfl ⟨rfl, ((Below.refl _ w).alloc (Nat.le_refl _) _).trans (HS2.out.below (Nat.le_refl _))⟩
  simp [results, Tryd.results33, go_sem, e0, e1, e2]
set_option maxHeartbeats 2000000 in
theorem of_3 (w : World) (k p : Int) (h : k = 3) : Calls Tryd.prog 33 #[.int .i64 k, .int .u32 p] w fun e w' => e = .returned (.agg #[.int .u32 0, .int .u32 0, .int .u32 p]) ∧ Below w.heap.size w w' := by
  subst h
  go_enter Tryd.func33, Tryd.ntmps33
  go_wp2_with (refine wpList_store_blk rfl 73 _ _ rfl (w.heap.size) 0 (.agg #[.int .u32 0, .int .u32 0, .int .u32 p]) rfl rfl 73 _ (Whole.new w 73 #[.int .u32 0, .int .u32 0, .int .u32 0]) (by simp [Value.cells]) size73 rfl ?_; intro w2 S2 W2; rw [splice_all _ _ (by rfl)] at W2; have HS2 := Lib.hid S2; have HW2 := Lib.hid (show Whole w2 (w.heap.size) 73 #[.int .u32 0, .int .u32 0, .int .u32 p] from W2); clear S2 W2)
  have e0 : w2.cell? ⟨w.heap.size, 0, none⟩ = some (.int .u32 0) := HW2.out.cell 0
  have e1 : w2.cell? ⟨w.heap.size, 1, none⟩ = some (.int .u32 0) := HW2.out.cell 1
  have e2 : w2.cell? ⟨w.heap.size, 2, none⟩ = some (.int .u32 p) := HW2.out.cell 2
  refine bodyPost_ret (v := .agg #[.int .u32 0, .int .u32 0, .int .u32 p]) ?_ rfl ⟨rfl, ((Below.refl _ w).alloc (Nat.le_refl _) _).trans (HS2.out.below (Nat.le_refl _))⟩
  simp [results, Tryd.results33, go_sem, e0, e1, e2]
set_option maxHeartbeats 2000000 in
theorem of_4 (w : World) (k p : Int) (h1 : ¬ k = 1) (h2 : ¬ k = 2) (h3 : ¬ k = 3) : Calls Tryd.prog 33 #[.int .i64 k, .int .u32 p] w fun e w' => e = .returned (.agg #[.int .u32 0, .int .u32 0, .int .u32 0]) ∧ Below w.heap.size w w' := by
  go_enter Tryd.func33, Tryd.ntmps33
  go_wp2_with (refine wpList_store_blk rfl 73 _ _ rfl (w.heap.size) 0 (.agg #[.int .u32 0, .int .u32 0, .int .u32 0]) rfl rfl 73 _ (Whole.new w 73 #[.int .u32 0, .int .u32 0, .int .u32 0]) (by simp [Value.cells]) size73 rfl ?_; intro w2 S2 W2; rw [splice_all _ _ (by rfl)] at W2; have HS2 := Lib.hid S2; have HW2 := Lib.hid (show Whole w2 (w.heap.size) 73 #[.int .u32 0, .int .u32 0, .int .u32 0] from W2); clear S2 W2)
  have e0 : w2.cell? ⟨w.heap.size, 0, none⟩ = some (.int .u32 0) := HW2.out.cell 0
  have e1 : w2.cell? ⟨w.heap.size, 1, none⟩ = some (.int .u32 0) := HW2.out.cell 1
  have e2 : w2.cell? ⟨w.heap.size, 2, none⟩ = some (.int .u32 0) := HW2.out.cell 2
  refine bodyPost_ret (v := .agg #[.int .u32 0, .int .u32 0, .int .u32 0]) ?_ rfl ⟨rfl, ((Below.refl _ w).alloc (Nat.le_refl _) _).trans (HS2.out.below (Nat.le_refl _))⟩
  simp [results, Tryd.results33, go_sem, e0, e1, e2]
theorem of_vec (w : World) (k p : Int) : Calls Tryd.prog 33 #[.int .i64 k, .int .u32 p] w fun e w' => e = .returned (.agg #[.int .u32 (vecOf k p).allow, .int .u32 (vecOf k p).audit, .int .u32 (vecOf k p).dont]) ∧ Below w.heap.size w w' := by
  unfold vecOf
  by_cases h1 : k = 1
  · rw [if_pos h1]; exact of_1 w k p h1
  · rw [if_neg h1]
    by_cases h2 : k = 2
    · rw [if_pos h2]; exact of_2 w k p h2
    · rw [if_neg h2]
      by_cases h3 : k = 3
      · rw [if_pos h3]; exact of_3 w k p h3
      · rw [if_neg h3]; exact of_4 w k p h1 h2 h3
set_option maxHeartbeats 2000000 in
theorem rbefore_0 (w : World) (x y : AEntry) (h0 : ¬ x.src = y.src) : Calls Tryd.prog 59 #[.agg #[.int .i64 x.src, .int .i64 x.tgt, .int .i64 x.cls, .int .i64 x.cond, .int .u32 x.allow, .int .u32 x.audit, .int .u32 x.dont], .agg #[.int .i64 y.src, .int .i64 y.tgt, .int .i64 y.cls, .int .i64 y.cond, .int .u32 y.allow, .int .u32 y.audit, .int .u32 y.dont]] w fun e w' => e = .returned (.bool (decide (x.src < y.src))) ∧ Below w.heap.size w w' := by
  obtain ⟨wo, hwo⟩ : ∃ wo, wo = (w.alloc (.cells #[.int .i64 x.src, .int .i64 x.tgt, .int .i64 x.cls, .int .i64 x.cond, .int .u32 x.allow, .int .u32 x.audit, .int .u32 x.dont] 61)).alloc (.cells #[.int .i64 y.src, .int .i64 y.tgt, .int .i64 y.cls, .int .i64 y.cond, .int .u32 y.allow, .int .u32 y.audit, .int .u32 y.dont] 61) := ⟨_, rfl⟩
  have HB := Lib.hid (show Below w.heap.size w wo by rw [hwo]; exact ((Below.refl _ w).alloc (Nat.le_refl _) _).alloc (by simp) _)
  have HX := Lib.hid (show Whole wo w.heap.size 61 #[.int .i64 x.src, .int .i64 x.tgt, .int .i64 x.cls, .int .i64 x.cond, .int .u32 x.allow, .int .u32 x.audit, .int .u32 x.dont] by rw [hwo]; exact (Whole.new w 61 #[.int .i64 x.src, .int .i64 x.tgt, .int .i64 x.cls, .int .i64 x.cond, .int .u32 x.allow, .int .u32 x.audit, .int .u32 x.dont]).alloc _)
  have HY := Lib.hid (show Whole wo (w.heap.size + 1) 61 #[.int .i64 y.src, .int .i64 y.tgt, .int .i64 y.cls, .int .i64 y.cond, .int .u32 y.allow, .int .u32 y.audit, .int .u32 y.dont] by rw [hwo]; exact whole_two w _ #[.int .i64 y.src, .int .i64 y.tgt, .int .i64 y.cls, .int .i64 y.cond, .int .u32 y.allow, .int .u32 y.audit, .int .u32 y.dont] _)
  have k0 : wo.cell? ⟨w.heap.size, 0, none⟩ = some (.int .i64 x.src) := HX.out.cell 0
  have l0 : wo.cell? ⟨w.heap.size + 1, 0, none⟩ = some (.int .i64 y.src) := HY.out.cell 0
  have k1 : wo.cell? ⟨w.heap.size, 1, none⟩ = some (.int .i64 x.tgt) := HX.out.cell 1
  have l1 : wo.cell? ⟨w.heap.size + 1, 1, none⟩ = some (.int .i64 y.tgt) := HY.out.cell 1
  have k2 : wo.cell? ⟨w.heap.size, 2, none⟩ = some (.int .i64 x.cls) := HX.out.cell 2
  have l2 : wo.cell? ⟨w.heap.size + 1, 2, none⟩ = some (.int .i64 y.cls) := HY.out.cell 2
  have k3 : wo.cell? ⟨w.heap.size, 3, none⟩ = some (.int .i64 x.cond) := HX.out.cell 3
  have l3 : wo.cell? ⟨w.heap.size + 1, 3, none⟩ = some (.int .i64 y.cond) := HY.out.cell 3
  go_enter Tryd.func59, Tryd.ntmps59
  go_upto_region 1 with (fail)
  rw [← hwo]
  clear hwo
  go_wp2
  go_ret
  exact ⟨rfl, HB.out⟩
set_option maxHeartbeats 2000000 in
theorem rbefore_1 (w : World) (x y : AEntry) (h0 : x.src = y.src) (h1 : ¬ x.tgt = y.tgt) : Calls Tryd.prog 59 #[.agg #[.int .i64 x.src, .int .i64 x.tgt, .int .i64 x.cls, .int .i64 x.cond, .int .u32 x.allow, .int .u32 x.audit, .int .u32 x.dont], .agg #[.int .i64 y.src, .int .i64 y.tgt, .int .i64 y.cls, .int .i64 y.cond, .int .u32 y.allow, .int .u32 y.audit, .int .u32 y.dont]] w fun e w' => e = .returned (.bool (decide (x.tgt < y.tgt))) ∧ Below w.heap.size w w' := by
  obtain ⟨wo, hwo⟩ : ∃ wo, wo = (w.alloc (.cells #[.int .i64 x.src, .int .i64 x.tgt, .int .i64 x.cls, .int .i64 x.cond, .int .u32 x.allow, .int .u32 x.audit, .int .u32 x.dont] 61)).alloc (.cells #[.int .i64 y.src, .int .i64 y.tgt, .int .i64 y.cls, .int .i64 y.cond, .int .u32 y.allow, .int .u32 y.audit, .int .u32 y.dont] 61) := ⟨_, rfl⟩
  have HB := Lib.hid (show Below w.heap.size w wo by rw [hwo]; exact ((Below.refl _ w).alloc (Nat.le_refl _) _).alloc (by simp) _)
  have HX := Lib.hid (show Whole wo w.heap.size 61 #[.int .i64 x.src, .int .i64 x.tgt, .int .i64 x.cls, .int .i64 x.cond, .int .u32 x.allow, .int .u32 x.audit, .int .u32 x.dont] by rw [hwo]; exact (Whole.new w 61 #[.int .i64 x.src, .int .i64 x.tgt, .int .i64 x.cls, .int .i64 x.cond, .int .u32 x.allow, .int .u32 x.audit, .int .u32 x.dont]).alloc _)
  have HY := Lib.hid (show Whole wo (w.heap.size + 1) 61 #[.int .i64 y.src, .int .i64 y.tgt, .int .i64 y.cls, .int .i64 y.cond, .int .u32 y.allow, .int .u32 y.audit, .int .u32 y.dont] by rw [hwo]; exact whole_two w _ #[.int .i64 y.src, .int .i64 y.tgt, .int .i64 y.cls, .int .i64 y.cond, .int .u32 y.allow, .int .u32 y.audit, .int .u32 y.dont] _)
  have k0 : wo.cell? ⟨w.heap.size, 0, none⟩ = some (.int .i64 x.src) := HX.out.cell 0
  have l0 : wo.cell? ⟨w.heap.size + 1, 0, none⟩ = some (.int .i64 x.src) := by rw [h0]; exact HY.out.cell 0
  have k1 : wo.cell? ⟨w.heap.size, 1, none⟩ = some (.int .i64 x.tgt) := HX.out.cell 1
  have l1 : wo.cell? ⟨w.heap.size + 1, 1, none⟩ = some (.int .i64 y.tgt) := HY.out.cell 1
  have k2 : wo.cell? ⟨w.heap.size, 2, none⟩ = some (.int .i64 x.cls) := HX.out.cell 2
  have l2 : wo.cell? ⟨w.heap.size + 1, 2, none⟩ = some (.int .i64 y.cls) := HY.out.cell 2
  have k3 : wo.cell? ⟨w.heap.size, 3, none⟩ = some (.int .i64 x.cond) := HX.out.cell 3
  have l3 : wo.cell? ⟨w.heap.size + 1, 3, none⟩ = some (.int .i64 y.cond) := HY.out.cell 3
  have E0 := Lib.hid h0
  clear h0
  go_enter Tryd.func59, Tryd.ntmps59
  go_upto_region 1 with (fail)
  rw [← hwo]
  clear hwo
  go_wp2
  go_ret
  exact ⟨rfl, HB.out⟩
set_option maxHeartbeats 2000000 in
theorem rbefore_2 (w : World) (x y : AEntry) (h0 : x.src = y.src) (h1 : x.tgt = y.tgt) (h2 : ¬ x.cls = y.cls) : Calls Tryd.prog 59 #[.agg #[.int .i64 x.src, .int .i64 x.tgt, .int .i64 x.cls, .int .i64 x.cond, .int .u32 x.allow, .int .u32 x.audit, .int .u32 x.dont], .agg #[.int .i64 y.src, .int .i64 y.tgt, .int .i64 y.cls, .int .i64 y.cond, .int .u32 y.allow, .int .u32 y.audit, .int .u32 y.dont]] w fun e w' => e = .returned (.bool (decide (x.cls < y.cls))) ∧ Below w.heap.size w w' := by
  obtain ⟨wo, hwo⟩ : ∃ wo, wo = (w.alloc (.cells #[.int .i64 x.src, .int .i64 x.tgt, .int .i64 x.cls, .int .i64 x.cond, .int .u32 x.allow, .int .u32 x.audit, .int .u32 x.dont] 61)).alloc (.cells #[.int .i64 y.src, .int .i64 y.tgt, .int .i64 y.cls, .int .i64 y.cond, .int .u32 y.allow, .int .u32 y.audit, .int .u32 y.dont] 61) := ⟨_, rfl⟩
  have HB := Lib.hid (show Below w.heap.size w wo by rw [hwo]; exact ((Below.refl _ w).alloc (Nat.le_refl _) _).alloc (by simp) _)
  have HX := Lib.hid (show Whole wo w.heap.size 61 #[.int .i64 x.src, .int .i64 x.tgt, .int .i64 x.cls, .int .i64 x.cond, .int .u32 x.allow, .int .u32 x.audit, .int .u32 x.dont] by rw [hwo]; exact (Whole.new w 61 #[.int .i64 x.src, .int .i64 x.tgt, .int .i64 x.cls, .int .i64 x.cond, .int .u32 x.allow, .int .u32 x.audit, .int .u32 x.dont]).alloc _)
  have HY := Lib.hid (show Whole wo (w.heap.size + 1) 61 #[.int .i64 y.src, .int .i64 y.tgt, .int .i64 y.cls, .int .i64 y.cond, .int .u32 y.allow, .int .u32 y.audit, .int .u32 y.dont] by rw [hwo]; exact whole_two w _ #[.int .i64 y.src, .int .i64 y.tgt, .int .i64 y.cls, .int .i64 y.cond, .int .u32 y.allow, .int .u32 y.audit, .int .u32 y.dont] _)
  have k0 : wo.cell? ⟨w.heap.size, 0, none⟩ = some (.int .i64 x.src) := HX.out.cell 0
  have l0 : wo.cell? ⟨w.heap.size + 1, 0, none⟩ = some (.int .i64 x.src) := by rw [h0]; exact HY.out.cell 0
  have k1 : wo.cell? ⟨w.heap.size, 1, none⟩ = some (.int .i64 x.tgt) := HX.out.cell 1
  have l1 : wo.cell? ⟨w.heap.size + 1, 1, none⟩ = some (.int .i64 x.tgt) := by rw [h1]; exact HY.out.cell 1
  have k2 : wo.cell? ⟨w.heap.size, 2, none⟩ = some (.int .i64 x.cls) := HX.out.cell 2
  have l2 : wo.cell? ⟨w.heap.size + 1, 2, none⟩ = some (.int .i64 y.cls) := HY.out.cell 2
  have k3 : wo.cell? ⟨w.heap.size, 3, none⟩ = some (.int .i64 x.cond) := HX.out.cell 3
  have l3 : wo.cell? ⟨w.heap.size + 1, 3, none⟩ = some (.int .i64 y.cond) := HY.out.cell 3
  have E0 := Lib.hid h0
  have E1 := Lib.hid h1
  clear h0 h1
  go_enter Tryd.func59, Tryd.ntmps59
  go_upto_region 1 with (fail)
  rw [← hwo]
  clear hwo
  go_wp2
  go_ret
  exact ⟨rfl, HB.out⟩
set_option maxHeartbeats 2000000 in
theorem rbefore_3 (w : World) (x y : AEntry) (h0 : x.src = y.src) (h1 : x.tgt = y.tgt) (h2 : x.cls = y.cls) : Calls Tryd.prog 59 #[.agg #[.int .i64 x.src, .int .i64 x.tgt, .int .i64 x.cls, .int .i64 x.cond, .int .u32 x.allow, .int .u32 x.audit, .int .u32 x.dont], .agg #[.int .i64 y.src, .int .i64 y.tgt, .int .i64 y.cls, .int .i64 y.cond, .int .u32 y.allow, .int .u32 y.audit, .int .u32 y.dont]] w fun e w' => e = .returned (.bool (decide (x.cond < y.cond))) ∧ Below w.heap.size w w' := by
  obtain ⟨wo, hwo⟩ : ∃ wo, wo = (w.alloc (.cells #[.int .i64 x.src, .int .i64 x.tgt, .int .i64 x.cls, .int .i64 x.cond, .int .u32 x.allow, .int .u32 x.audit, .int .u32 x.dont] 61)).alloc (.cells #[.int .i64 y.src, .int .i64 y.tgt, .int .i64 y.cls, .int .i64 y.cond, .int .u32 y.allow, .int .u32 y.audit, .int .u32 y.dont] 61) := ⟨_, rfl⟩
  have HB := Lib.hid (show Below w.heap.size w wo by rw [hwo]; exact ((Below.refl _ w).alloc (Nat.le_refl _) _).alloc (by simp) _)
  have HX := Lib.hid (show Whole wo w.heap.size 61 #[.int .i64 x.src, .int .i64 x.tgt, .int .i64 x.cls, .int .i64 x.cond, .int .u32 x.allow, .int .u32 x.audit, .int .u32 x.dont] by rw [hwo]; exact (Whole.new w 61 #[.int .i64 x.src, .int .i64 x.tgt, .int .i64 x.cls, .int .i64 x.cond, .int .u32 x.allow, .int .u32 x.audit, .int .u32 x.dont]).alloc _)
  have HY := Lib.hid (show Whole wo (w.heap.size + 1) 61 #[.int .i64 y.src, .int .i64 y.tgt, .int .i64 y.cls, .int .i64 y.cond, .int .u32 y.allow, .int .u32 y.audit, .int .u32 y.dont] by rw [hwo]; exact whole_two w _ #[.int .i64 y.src, .int .i64 y.tgt, .int .i64 y.cls, .int .i64 y.cond, .int .u32 y.allow, .int .u32 y.audit, .int .u32 y.dont] _)
  have k0 : wo.cell? ⟨w.heap.size, 0, none⟩ = some (.int .i64 x.src) := HX.out.cell 0
  have l0 : wo.cell? ⟨w.heap.size + 1, 0, none⟩ = some (.int .i64 x.src) := by rw [h0]; exact HY.out.cell 0
  have k1 : wo.cell? ⟨w.heap.size, 1, none⟩ = some (.int .i64 x.tgt) := HX.out.cell 1
  have l1 : wo.cell? ⟨w.heap.size + 1, 1, none⟩ = some (.int .i64 x.tgt) := by rw [h1]; exact HY.out.cell 1
  have k2 : wo.cell? ⟨w.heap.size, 2, none⟩ = some (.int .i64 x.cls) := HX.out.cell 2
  have l2 : wo.cell? ⟨w.heap.size + 1, 2, none⟩ = some (.int .i64 x.cls) := by rw [h2]; exact HY.out.cell 2
  have k3 : wo.cell? ⟨w.heap.size, 3, none⟩ = some (.int .i64 x.cond) := HX.out.cell 3
  have l3 : wo.cell? ⟨w.heap.size + 1, 3, none⟩ = some (.int .i64 y.cond) := HY.out.cell 3
  have E0 := Lib.hid h0
  have E1 := Lib.hid h1
  have E2 := Lib.hid h2
  clear h0 h1 h2
  go_enter Tryd.func59, Tryd.ntmps59
  go_upto_region 1 with (fail)
  rw [← hwo]
  clear hwo
  go_wp2
  go_ret
  exact ⟨rfl, HB.out⟩

theorem rbefore_any (w : World) (x y : AEntry) : Calls Tryd.prog 59 #[.agg #[.int .i64 x.src, .int .i64 x.tgt, .int .i64 x.cls, .int .i64 x.cond, .int .u32 x.allow, .int .u32 x.audit, .int .u32 x.dont], .agg #[.int .i64 y.src, .int .i64 y.tgt, .int .i64 y.cls, .int .i64 y.cond, .int .u32 y.allow, .int .u32 y.audit, .int .u32 y.dont]] w fun e w' => e = .returned (.bool (decide (beforeI x y < 0))) ∧ Below w.heap.size w w' := by
  unfold beforeI
  by_cases h0 : x.src = y.src
  · by_cases h1 : x.tgt = y.tgt
    · by_cases h2 : x.cls = y.cls
      · have e : (orI [cmpI x.src y.src, cmpI x.tgt y.tgt, cmpI x.cls y.cls, cmpI x.cond y.cond] < 0) = (x.cond < y.cond) := by
          simp only [orI, cmpI_zero, h0, h1, h2, if_true]
          by_cases h3 : x.cond = y.cond
          · simp [h3]
          · rw [if_neg h3]; exact propext cmpI_neg
        simp only [e]
        exact rbefore_3 w x y h0 h1 h2
      · have e : (orI [cmpI x.src y.src, cmpI x.tgt y.tgt, cmpI x.cls y.cls, cmpI x.cond y.cond] < 0) = (x.cls < y.cls) := by
          simp only [orI, cmpI_zero, h0, h1, if_true]
          rw [if_neg h2]; exact propext cmpI_neg
        simp only [e]
        exact rbefore_2 w x y h0 h1 h2
    · have e : (orI [cmpI x.src y.src, cmpI x.tgt y.tgt, cmpI x.cls y.cls, cmpI x.cond y.cond] < 0) = (x.tgt < y.tgt) := by
        simp only [orI, cmpI_zero, h0, if_true]
        rw [if_neg h1]; exact propext cmpI_neg
      simp only [e]
      exact rbefore_1 w x y h0 h1
  · have e : (orI [cmpI x.src y.src, cmpI x.tgt y.tgt, cmpI x.cls y.cls, cmpI x.cond y.cond] < 0) = (x.src < y.src) := by
      simp only [orI, cmpI_zero]
      rw [if_neg h0]; exact propext cmpI_neg
    simp only [e]
    exact rbefore_0 w x y h0
end Go.Proofs.YtmkfabdkadocdaaDoor
