import Derived.Test.YtmkfabdkadocdaaDoorN7
/-
  The reference's less.
-/
namespace Go.Proofs.YtmkfabdkadocdaaDoor
open Go Go.RowKit

set_option maxRecDepth 100000 in
set_option maxHeartbeats 4000000 in
theorem less_0 (w : World) (x y : ARule) (hx : x.Ok) (hy : y.Ok)  (h0 : ¬ x.kind = y.kind) : Calls Tryd.prog 60 #[.agg #[.int .i64 x.kind, .int .u64 x.src.a, .int .u64 x.src.b, .int .u64 x.src.c, .int .u64 x.src.d, .int .u64 x.tgt.a, .int .u64 x.tgt.b, .int .u64 x.tgt.c, .int .u64 x.tgt.d, .bool x.self, .int .i64 x.cls, .int .u32 x.perms, .int .i64 x.cond], .agg #[.int .i64 y.kind, .int .u64 y.src.a, .int .u64 y.src.b, .int .u64 y.src.c, .int .u64 y.src.d, .int .u64 y.tgt.a, .int .u64 y.tgt.b, .int .u64 y.tgt.c, .int .u64 y.tgt.d, .bool y.self, .int .i64 y.cls, .int .u32 y.perms, .int .i64 y.cond]] w fun e w' => e = .returned (.bool (decide (x.kind < y.kind))) ∧ Below w.heap.size w w' := by
  have HOX := Lib.hid hx
  have HOY := Lib.hid hy
  clear hx hy
  obtain ⟨wo, hwo⟩ : ∃ wo, wo = (w.alloc (.cells #[.int .i64 x.kind, .int .u64 x.src.a, .int .u64 x.src.b, .int .u64 x.src.c, .int .u64 x.src.d, .int .u64 x.tgt.a, .int .u64 x.tgt.b, .int .u64 x.tgt.c, .int .u64 x.tgt.d, .bool x.self, .int .i64 x.cls, .int .u32 x.perms, .int .i64 x.cond] 27)).alloc (.cells #[.int .i64 y.kind, .int .u64 y.src.a, .int .u64 y.src.b, .int .u64 y.src.c, .int .u64 y.src.d, .int .u64 y.tgt.a, .int .u64 y.tgt.b, .int .u64 y.tgt.c, .int .u64 y.tgt.d, .bool y.self, .int .i64 y.cls, .int .u32 y.perms, .int .i64 y.cond] 27) := ⟨_, rfl⟩
  have HX := Lib.hid (show Whole wo w.heap.size 27 #[.int .i64 x.kind, .int .u64 x.src.a, .int .u64 x.src.b, .int .u64 x.src.c, .int .u64 x.src.d, .int .u64 x.tgt.a, .int .u64 x.tgt.b, .int .u64 x.tgt.c, .int .u64 x.tgt.d, .bool x.self, .int .i64 x.cls, .int .u32 x.perms, .int .i64 x.cond] by rw [hwo]; exact (Whole.new w 27 #[.int .i64 x.kind, .int .u64 x.src.a, .int .u64 x.src.b, .int .u64 x.src.c, .int .u64 x.src.d, .int .u64 x.tgt.a, .int .u64 x.tgt.b, .int .u64 x.tgt.c, .int .u64 x.tgt.d, .bool x.self, .int .i64 x.cls, .int .u32 x.perms, .int .i64 x.cond]).alloc _)
  have HY := Lib.hid (show Whole wo (w.heap.size + 1) 27 #[.int .i64 y.kind, .int .u64 y.src.a, .int .u64 y.src.b, .int .u64 y.src.c, .int .u64 y.src.d, .int .u64 y.tgt.a, .int .u64 y.tgt.b, .int .u64 y.tgt.c, .int .u64 y.tgt.d, .bool y.self, .int .i64 y.cls, .int .u32 y.perms, .int .i64 y.cond] by rw [hwo]; exact whole_two w _ #[.int .i64 y.kind, .int .u64 y.src.a, .int .u64 y.src.b, .int .u64 y.src.c, .int .u64 y.src.d, .int .u64 y.tgt.a, .int .u64 y.tgt.b, .int .u64 y.tgt.c, .int .u64 y.tgt.d, .bool y.self, .int .i64 y.cls, .int .u32 y.perms, .int .i64 y.cond] _)
  have HB0 := Lib.hid (show Below w.heap.size w wo by rw [hwo]; exact ((Below.refl _ w).alloc (Nat.le_refl _) _).alloc (by simp) _)
  have k0 : wo.cell? ⟨w.heap.size, 0, none⟩ = some (.int .i64 x.kind) := HX.out.cell 0
  have l0 : wo.cell? ⟨w.heap.size + 1, 0, none⟩ = some (.int .i64 y.kind) := HY.out.cell 0
  go_enter Tryd.func60, Tryd.ntmps60
  go_upto_region 1 with (fail)
  rw [← hwo]
  clear hwo
  go_wp2
  go_ret
  exact ⟨rfl, HB0.out⟩
set_option maxRecDepth 100000 in
set_option maxHeartbeats 4000000 in
theorem less_1 (w : World) (x y : ARule) (hx : x.Ok) (hy : y.Ok) (h0 : x.kind = y.kind) (h1 : ¬ x.cls = y.cls) : Calls Tryd.prog 60 #[.agg #[.int .i64 x.kind, .int .u64 x.src.a, .int .u64 x.src.b, .int .u64 x.src.c, .int .u64 x.src.d, .int .u64 x.tgt.a, .int .u64 x.tgt.b, .int .u64 x.tgt.c, .int .u64 x.tgt.d, .bool x.self, .int .i64 x.cls, .int .u32 x.perms, .int .i64 x.cond], .agg #[.int .i64 y.kind, .int .u64 y.src.a, .int .u64 y.src.b, .int .u64 y.src.c, .int .u64 y.src.d, .int .u64 y.tgt.a, .int .u64 y.tgt.b, .int .u64 y.tgt.c, .int .u64 y.tgt.d, .bool y.self, .int .i64 y.cls, .int .u32 y.perms, .int .i64 y.cond]] w fun e w' => e = .returned (.bool (decide (x.cls < y.cls))) ∧ Below w.heap.size w w' := by
  have HOX := Lib.hid hx
  have HOY := Lib.hid hy
  clear hx hy
  obtain ⟨wo, hwo⟩ : ∃ wo, wo = (w.alloc (.cells #[.int .i64 x.kind, .int .u64 x.src.a, .int .u64 x.src.b, .int .u64 x.src.c, .int .u64 x.src.d, .int .u64 x.tgt.a, .int .u64 x.tgt.b, .int .u64 x.tgt.c, .int .u64 x.tgt.d, .bool x.self, .int .i64 x.cls, .int .u32 x.perms, .int .i64 x.cond] 27)).alloc (.cells #[.int .i64 y.kind, .int .u64 y.src.a, .int .u64 y.src.b, .int .u64 y.src.c, .int .u64 y.src.d, .int .u64 y.tgt.a, .int .u64 y.tgt.b, .int .u64 y.tgt.c, .int .u64 y.tgt.d, .bool y.self, .int .i64 y.cls, .int .u32 y.perms, .int .i64 y.cond] 27) := ⟨_, rfl⟩
  have HX := Lib.hid (show Whole wo w.heap.size 27 #[.int .i64 x.kind, .int .u64 x.src.a, .int .u64 x.src.b, .int .u64 x.src.c, .int .u64 x.src.d, .int .u64 x.tgt.a, .int .u64 x.tgt.b, .int .u64 x.tgt.c, .int .u64 x.tgt.d, .bool x.self, .int .i64 x.cls, .int .u32 x.perms, .int .i64 x.cond] by rw [hwo]; exact (Whole.new w 27 #[.int .i64 x.kind, .int .u64 x.src.a, .int .u64 x.src.b, .int .u64 x.src.c, .int .u64 x.src.d, .int .u64 x.tgt.a, .int .u64 x.tgt.b, .int .u64 x.tgt.c, .int .u64 x.tgt.d, .bool x.self, .int .i64 x.cls, .int .u32 x.perms, .int .i64 x.cond]).alloc _)
  have HY := Lib.hid (show Whole wo (w.heap.size + 1) 27 #[.int .i64 y.kind, .int .u64 y.src.a, .int .u64 y.src.b, .int .u64 y.src.c, .int .u64 y.src.d, .int .u64 y.tgt.a, .int .u64 y.tgt.b, .int .u64 y.tgt.c, .int .u64 y.tgt.d, .bool y.self, .int .i64 y.cls, .int .u32 y.perms, .int .i64 y.cond] by rw [hwo]; exact whole_two w _ #[.int .i64 y.kind, .int .u64 y.src.a, .int .u64 y.src.b, .int .u64 y.src.c, .int .u64 y.src.d, .int .u64 y.tgt.a, .int .u64 y.tgt.b, .int .u64 y.tgt.c, .int .u64 y.tgt.d, .bool y.self, .int .i64 y.cls, .int .u32 y.perms, .int .i64 y.cond] _)
  have HB0 := Lib.hid (show Below w.heap.size w wo by rw [hwo]; exact ((Below.refl _ w).alloc (Nat.le_refl _) _).alloc (by simp) _)
  have k0 : wo.cell? ⟨w.heap.size, 0, none⟩ = some (.int .i64 x.kind) := HX.out.cell 0
  have l0 : wo.cell? ⟨w.heap.size + 1, 0, none⟩ = some (.int .i64 x.kind) := by rw [h0]; exact HY.out.cell 0
  have k1 : wo.cell? ⟨w.heap.size, 10, none⟩ = some (.int .i64 x.cls) := HX.out.cell 10
  have l1 : wo.cell? ⟨w.heap.size + 1, 10, none⟩ = some (.int .i64 y.cls) := HY.out.cell 10
  clear h0
  go_enter Tryd.func60, Tryd.ntmps60
  go_upto_region 1 with (fail)
  rw [← hwo]
  clear hwo
  go_wp2
  go_ret
  exact ⟨rfl, HB0.out⟩
set_option maxRecDepth 100000 in
set_option maxHeartbeats 4000000 in
theorem less_2 (w : World) (x y : ARule) (hx : x.Ok) (hy : y.Ok) (h0 : x.kind = y.kind) (h1 : x.cls = y.cls) (h2 : ¬ x.cond = y.cond) : Calls Tryd.prog 60 #[.agg #[.int .i64 x.kind, .int .u64 x.src.a, .int .u64 x.src.b, .int .u64 x.src.c, .int .u64 x.src.d, .int .u64 x.tgt.a, .int .u64 x.tgt.b, .int .u64 x.tgt.c, .int .u64 x.tgt.d, .bool x.self, .int .i64 x.cls, .int .u32 x.perms, .int .i64 x.cond], .agg #[.int .i64 y.kind, .int .u64 y.src.a, .int .u64 y.src.b, .int .u64 y.src.c, .int .u64 y.src.d, .int .u64 y.tgt.a, .int .u64 y.tgt.b, .int .u64 y.tgt.c, .int .u64 y.tgt.d, .bool y.self, .int .i64 y.cls, .int .u32 y.perms, .int .i64 y.cond]] w fun e w' => e = .returned (.bool (decide (x.cond < y.cond))) ∧ Below w.heap.size w w' := by
  have HOX := Lib.hid hx
  have HOY := Lib.hid hy
  clear hx hy
  obtain ⟨wo, hwo⟩ : ∃ wo, wo = (w.alloc (.cells #[.int .i64 x.kind, .int .u64 x.src.a, .int .u64 x.src.b, .int .u64 x.src.c, .int .u64 x.src.d, .int .u64 x.tgt.a, .int .u64 x.tgt.b, .int .u64 x.tgt.c, .int .u64 x.tgt.d, .bool x.self, .int .i64 x.cls, .int .u32 x.perms, .int .i64 x.cond] 27)).alloc (.cells #[.int .i64 y.kind, .int .u64 y.src.a, .int .u64 y.src.b, .int .u64 y.src.c, .int .u64 y.src.d, .int .u64 y.tgt.a, .int .u64 y.tgt.b, .int .u64 y.tgt.c, .int .u64 y.tgt.d, .bool y.self, .int .i64 y.cls, .int .u32 y.perms, .int .i64 y.cond] 27) := ⟨_, rfl⟩
  have HX := Lib.hid (show Whole wo w.heap.size 27 #[.int .i64 x.kind, .int .u64 x.src.a, .int .u64 x.src.b, .int .u64 x.src.c, .int .u64 x.src.d, .int .u64 x.tgt.a, .int .u64 x.tgt.b, .int .u64 x.tgt.c, .int .u64 x.tgt.d, .bool x.self, .int .i64 x.cls, .int .u32 x.perms, .int .i64 x.cond] by rw [hwo]; exact (Whole.new w 27 #[.int .i64 x.kind, .int .u64 x.src.a, .int .u64 x.src.b, .int .u64 x.src.c, .int .u64 x.src.d, .int .u64 x.tgt.a, .int .u64 x.tgt.b, .int .u64 x.tgt.c, .int .u64 x.tgt.d, .bool x.self, .int .i64 x.cls, .int .u32 x.perms, .int .i64 x.cond]).alloc _)
  have HY := Lib.hid (show Whole wo (w.heap.size + 1) 27 #[.int .i64 y.kind, .int .u64 y.src.a, .int .u64 y.src.b, .int .u64 y.src.c, .int .u64 y.src.d, .int .u64 y.tgt.a, .int .u64 y.tgt.b, .int .u64 y.tgt.c, .int .u64 y.tgt.d, .bool y.self, .int .i64 y.cls, .int .u32 y.perms, .int .i64 y.cond] by rw [hwo]; exact whole_two w _ #[.int .i64 y.kind, .int .u64 y.src.a, .int .u64 y.src.b, .int .u64 y.src.c, .int .u64 y.src.d, .int .u64 y.tgt.a, .int .u64 y.tgt.b, .int .u64 y.tgt.c, .int .u64 y.tgt.d, .bool y.self, .int .i64 y.cls, .int .u32 y.perms, .int .i64 y.cond] _)
  have HB0 := Lib.hid (show Below w.heap.size w wo by rw [hwo]; exact ((Below.refl _ w).alloc (Nat.le_refl _) _).alloc (by simp) _)
  have k0 : wo.cell? ⟨w.heap.size, 0, none⟩ = some (.int .i64 x.kind) := HX.out.cell 0
  have l0 : wo.cell? ⟨w.heap.size + 1, 0, none⟩ = some (.int .i64 x.kind) := by rw [h0]; exact HY.out.cell 0
  have k1 : wo.cell? ⟨w.heap.size, 10, none⟩ = some (.int .i64 x.cls) := HX.out.cell 10
  have l1 : wo.cell? ⟨w.heap.size + 1, 10, none⟩ = some (.int .i64 x.cls) := by rw [h1]; exact HY.out.cell 10
  have k2 : wo.cell? ⟨w.heap.size, 12, none⟩ = some (.int .i64 x.cond) := HX.out.cell 12
  have l2 : wo.cell? ⟨w.heap.size + 1, 12, none⟩ = some (.int .i64 y.cond) := HY.out.cell 12
  clear h0 h1
  go_enter Tryd.func60, Tryd.ntmps60
  go_upto_region 1 with (fail)
  rw [← hwo]
  clear hwo
  go_wp2
  go_ret
  exact ⟨rfl, HB0.out⟩
set_option maxRecDepth 100000 in
set_option maxHeartbeats 4000000 in
theorem less_3 (w : World) (x y : ARule) (hx : x.Ok) (hy : y.Ok) (h0 : x.kind = y.kind) (h1 : x.cls = y.cls) (h2 : x.cond = y.cond) (h3 : ¬ x.perms = y.perms) : Calls Tryd.prog 60 #[.agg #[.int .i64 x.kind, .int .u64 x.src.a, .int .u64 x.src.b, .int .u64 x.src.c, .int .u64 x.src.d, .int .u64 x.tgt.a, .int .u64 x.tgt.b, .int .u64 x.tgt.c, .int .u64 x.tgt.d, .bool x.self, .int .i64 x.cls, .int .u32 x.perms, .int .i64 x.cond], .agg #[.int .i64 y.kind, .int .u64 y.src.a, .int .u64 y.src.b, .int .u64 y.src.c, .int .u64 y.src.d, .int .u64 y.tgt.a, .int .u64 y.tgt.b, .int .u64 y.tgt.c, .int .u64 y.tgt.d, .bool y.self, .int .i64 y.cls, .int .u32 y.perms, .int .i64 y.cond]] w fun e w' => e = .returned (.bool (decide (x.perms < y.perms))) ∧ Below w.heap.size w w' := by
  have HOX := Lib.hid hx
  have HOY := Lib.hid hy
  clear hx hy
  obtain ⟨wo, hwo⟩ : ∃ wo, wo = (w.alloc (.cells #[.int .i64 x.kind, .int .u64 x.src.a, .int .u64 x.src.b, .int .u64 x.src.c, .int .u64 x.src.d, .int .u64 x.tgt.a, .int .u64 x.tgt.b, .int .u64 x.tgt.c, .int .u64 x.tgt.d, .bool x.self, .int .i64 x.cls, .int .u32 x.perms, .int .i64 x.cond] 27)).alloc (.cells #[.int .i64 y.kind, .int .u64 y.src.a, .int .u64 y.src.b, .int .u64 y.src.c, .int .u64 y.src.d, .int .u64 y.tgt.a, .int .u64 y.tgt.b, .int .u64 y.tgt.c, .int .u64 y.tgt.d, .bool y.self, .int .i64 y.cls, .int .u32 y.perms, .int .i64 y.cond] 27) := ⟨_, rfl⟩
  have HX := Lib.hid (show Whole wo w.heap.size 27 #[.int .i64 x.kind, .int .u64 x.src.a, .int .u64 x.src.b, .int .u64 x.src.c, .int .u64 x.src.d, .int .u64 x.tgt.a, .int .u64 x.tgt.b, .int .u64 x.tgt.c, .int .u64 x.tgt.d, .bool x.self, .int .i64 x.cls, .int .u32 x.perms, .int .i64 x.cond] by rw [hwo]; exact (Whole.new w 27 #[.int .i64 x.kind, .int .u64 x.src.a, .int .u64 x.src.b, .int .u64 x.src.c, .int .u64 x.src.d, .int .u64 x.tgt.a, .int .u64 x.tgt.b, .int .u64 x.tgt.c, .int .u64 x.tgt.d, .bool x.self, .int .i64 x.cls, .int .u32 x.perms, .int .i64 x.cond]).alloc _)
  have HY := Lib.hid (show Whole wo (w.heap.size + 1) 27 #[.int .i64 y.kind, .int .u64 y.src.a, .int .u64 y.src.b, .int .u64 y.src.c, .int .u64 y.src.d, .int .u64 y.tgt.a, .int .u64 y.tgt.b, .int .u64 y.tgt.c, .int .u64 y.tgt.d, .bool y.self, .int .i64 y.cls, .int .u32 y.perms, .int .i64 y.cond] by rw [hwo]; exact whole_two w _ #[.int .i64 y.kind, .int .u64 y.src.a, .int .u64 y.src.b, .int .u64 y.src.c, .int .u64 y.src.d, .int .u64 y.tgt.a, .int .u64 y.tgt.b, .int .u64 y.tgt.c, .int .u64 y.tgt.d, .bool y.self, .int .i64 y.cls, .int .u32 y.perms, .int .i64 y.cond] _)
  have HB0 := Lib.hid (show Below w.heap.size w wo by rw [hwo]; exact ((Below.refl _ w).alloc (Nat.le_refl _) _).alloc (by simp) _)
  have k0 : wo.cell? ⟨w.heap.size, 0, none⟩ = some (.int .i64 x.kind) := HX.out.cell 0
  have l0 : wo.cell? ⟨w.heap.size + 1, 0, none⟩ = some (.int .i64 x.kind) := by rw [h0]; exact HY.out.cell 0
  have k1 : wo.cell? ⟨w.heap.size, 10, none⟩ = some (.int .i64 x.cls) := HX.out.cell 10
  have l1 : wo.cell? ⟨w.heap.size + 1, 10, none⟩ = some (.int .i64 x.cls) := by rw [h1]; exact HY.out.cell 10
  have k2 : wo.cell? ⟨w.heap.size, 12, none⟩ = some (.int .i64 x.cond) := HX.out.cell 12
  have l2 : wo.cell? ⟨w.heap.size + 1, 12, none⟩ = some (.int .i64 x.cond) := by rw [h2]; exact HY.out.cell 12
  have k3 : wo.cell? ⟨w.heap.size, 11, none⟩ = some (.int .u32 x.perms) := HX.out.cell 11
  have l3 : wo.cell? ⟨w.heap.size + 1, 11, none⟩ = some (.int .u32 y.perms) := HY.out.cell 11
  clear h0 h1 h2
  go_enter Tryd.func60, Tryd.ntmps60
  go_upto_region 1 with (fail)
  rw [← hwo]
  clear hwo
  go_wp2
  go_ret
  exact ⟨rfl, HB0.out⟩
set_option maxRecDepth 100000 in
set_option maxHeartbeats 4000000 in
theorem less_4 (w : World) (x y : ARule) (hx : x.Ok) (hy : y.Ok) (h0 : x.kind = y.kind) (h1 : x.cls = y.cls) (h2 : x.cond = y.cond) (h3 : x.perms = y.perms) : Calls Tryd.prog 60 #[.agg #[.int .i64 x.kind, .int .u64 x.src.a, .int .u64 x.src.b, .int .u64 x.src.c, .int .u64 x.src.d, .int .u64 x.tgt.a, .int .u64 x.tgt.b, .int .u64 x.tgt.c, .int .u64 x.tgt.d, .bool x.self, .int .i64 x.cls, .int .u32 x.perms, .int .i64 x.cond], .agg #[.int .i64 y.kind, .int .u64 y.src.a, .int .u64 y.src.b, .int .u64 y.src.c, .int .u64 y.src.d, .int .u64 y.tgt.a, .int .u64 y.tgt.b, .int .u64 y.tgt.c, .int .u64 y.tgt.d, .bool y.self, .int .i64 y.cls, .int .u32 y.perms, .int .i64 y.cond]] w fun e w' => e = .returned (.bool (decide (x.src.least < y.src.least))) ∧ Below w.heap.size w w' := by
  have HOX := Lib.hid hx
  have HOY := Lib.hid hy
  clear hx hy
  obtain ⟨wo, hwo⟩ : ∃ wo, wo = (w.alloc (.cells #[.int .i64 x.kind, .int .u64 x.src.a, .int .u64 x.src.b, .int .u64 x.src.c, .int .u64 x.src.d, .int .u64 x.tgt.a, .int .u64 x.tgt.b, .int .u64 x.tgt.c, .int .u64 x.tgt.d, .bool x.self, .int .i64 x.cls, .int .u32 x.perms, .int .i64 x.cond] 27)).alloc (.cells #[.int .i64 y.kind, .int .u64 y.src.a, .int .u64 y.src.b, .int .u64 y.src.c, .int .u64 y.src.d, .int .u64 y.tgt.a, .int .u64 y.tgt.b, .int .u64 y.tgt.c, .int .u64 y.tgt.d, .bool y.self, .int .i64 y.cls, .int .u32 y.perms, .int .i64 y.cond] 27) := ⟨_, rfl⟩
  have HX := Lib.hid (show Whole wo w.heap.size 27 #[.int .i64 x.kind, .int .u64 x.src.a, .int .u64 x.src.b, .int .u64 x.src.c, .int .u64 x.src.d, .int .u64 x.tgt.a, .int .u64 x.tgt.b, .int .u64 x.tgt.c, .int .u64 x.tgt.d, .bool x.self, .int .i64 x.cls, .int .u32 x.perms, .int .i64 x.cond] by rw [hwo]; exact (Whole.new w 27 #[.int .i64 x.kind, .int .u64 x.src.a, .int .u64 x.src.b, .int .u64 x.src.c, .int .u64 x.src.d, .int .u64 x.tgt.a, .int .u64 x.tgt.b, .int .u64 x.tgt.c, .int .u64 x.tgt.d, .bool x.self, .int .i64 x.cls, .int .u32 x.perms, .int .i64 x.cond]).alloc _)
  have HY := Lib.hid (show Whole wo (w.heap.size + 1) 27 #[.int .i64 y.kind, .int .u64 y.src.a, .int .u64 y.src.b, .int .u64 y.src.c, .int .u64 y.src.d, .int .u64 y.tgt.a, .int .u64 y.tgt.b, .int .u64 y.tgt.c, .int .u64 y.tgt.d, .bool y.self, .int .i64 y.cls, .int .u32 y.perms, .int .i64 y.cond] by rw [hwo]; exact whole_two w _ #[.int .i64 y.kind, .int .u64 y.src.a, .int .u64 y.src.b, .int .u64 y.src.c, .int .u64 y.src.d, .int .u64 y.tgt.a, .int .u64 y.tgt.b, .int .u64 y.tgt.c, .int .u64 y.tgt.d, .bool y.self, .int .i64 y.cls, .int .u32 y.perms, .int .i64 y.cond] _)
  have HB0 := Lib.hid (show Below w.heap.size w wo by rw [hwo]; exact ((Below.refl _ w).alloc (Nat.le_refl _) _).alloc (by simp) _)
  have k0 : wo.cell? ⟨w.heap.size, 0, none⟩ = some (.int .i64 x.kind) := HX.out.cell 0
  have l0 : wo.cell? ⟨w.heap.size + 1, 0, none⟩ = some (.int .i64 x.kind) := by rw [h0]; exact HY.out.cell 0
  have k1 : wo.cell? ⟨w.heap.size, 10, none⟩ = some (.int .i64 x.cls) := HX.out.cell 10
  have l1 : wo.cell? ⟨w.heap.size + 1, 10, none⟩ = some (.int .i64 x.cls) := by rw [h1]; exact HY.out.cell 10
  have k2 : wo.cell? ⟨w.heap.size, 12, none⟩ = some (.int .i64 x.cond) := HX.out.cell 12
  have l2 : wo.cell? ⟨w.heap.size + 1, 12, none⟩ = some (.int .i64 x.cond) := by rw [h2]; exact HY.out.cell 12
  have k3 : wo.cell? ⟨w.heap.size, 11, none⟩ = some (.int .u32 x.perms) := HX.out.cell 11
  have l3 : wo.cell? ⟨w.heap.size + 1, 11, none⟩ = some (.int .u32 x.perms) := by rw [h3]; exact HY.out.cell 11
  clear h0 h1 h2 h3
  go_enter Tryd.func60, Tryd.ntmps60
  go_upto_region 1 with (fail)
  rw [← hwo]
  clear hwo
  go_wp2
  clear k0 k1 k2 k3 l0 l1 l2 l3
  refine wp_region_last (fun w w' => Below w.heap.size w w') [some 45, some 46, some 47, some 48, some 49, some 50, some 51] [isV (.pointer (some ⟨w.heap.size, 1, none⟩)), isV (.agg #[.int .u64 x.src.a, .int .u64 x.src.b, .int .u64 x.src.c, .int .u64 x.src.d]), isV (.int .i64 x.src.least), isV (.pointer (some ⟨w.heap.size + 1, 1, none⟩)), isV (.agg #[.int .u64 y.src.a, .int .u64 y.src.b, .int .u64 y.src.c, .int .u64 y.src.d]), isV (.int .i64 y.src.least), isV (.bool (decide (x.src.least < y.src.least)))] (fun _ w' => Below wo.heap.size wo w') 7 (by kernel_rfl) (by kernel_rfl) (by kernel_rfl) rfl (by decide) rfl rfl ((Below.refl _ _).drew) ⟨lasts_is _, lasts_is _, lasts_is _, lasts_is _, lasts_is _, lasts_is _, lasts_is _, trivial⟩ ⟨(fun _ => lastsR_is _), (fun _ => lastsR_is _), (fun _ => lastsR_is _), (fun _ => lastsR_is _), (fun _ => lastsR_is _), (fun _ => lastsR_is _), (fun _ => lastsR_is _), trivial⟩ ⟨?_, ?_, ?_, ?_, ?_, ?_, ?_, ?_⟩
  · intro L a wx Q' hL hi H F hK
    try dsimp only at hi
    have h2 : a.tmps[2]? = some (.pointer (some ⟨w.heap.size, 0, none⟩)) := F 2 rfl
    have HI := Lib.hid hi
    clear H F hi hL
    go_wp2_with fail
    exact hK _ _ (Below.refl _ _) HI.out rfl
  · intro L a wx Q' hL hi H F hK
    try dsimp only at hi
    obtain ⟨_, h45, rfl⟩ := H 0 ⟨.data, by simp, rfl⟩ _ rfl
    replace h45 := h45 _ rfl
    have HI := Lib.hid hi
    clear H F hi hL
    have kq0 : wx.cell? ⟨w.heap.size, 1, none⟩ = some (.int .u64 x.src.a) := (Whole.under HI.out HX.out (Whole.lt HX.out)).cell 1
    have kq1 : wx.cell? ⟨w.heap.size, 2, none⟩ = some (.int .u64 x.src.b) := (Whole.under HI.out HX.out (Whole.lt HX.out)).cell 2
    have kq2 : wx.cell? ⟨w.heap.size, 3, none⟩ = some (.int .u64 x.src.c) := (Whole.under HI.out HX.out (Whole.lt HX.out)).cell 3
    have kq3 : wx.cell? ⟨w.heap.size, 4, none⟩ = some (.int .u64 x.src.d) := (Whole.under HI.out HX.out (Whole.lt HX.out)).cell 4
    go_wp2_with fail
    exact hK _ _ (Below.refl _ _) HI.out rfl
  · intro L a wx Q' hL hi H F hK
    try dsimp only at hi
    obtain ⟨_, h46, rfl⟩ := H 1 ⟨.data, by simp, rfl⟩ _ rfl
    replace h46 := h46 _ rfl
    have HI := Lib.hid hi
    clear H F hi hL
    go_wp2_with (go_at_call 75; go_must (refine (rleast_any wx x.src HOX.out.src).mono ?_; rintro e w1 ⟨rfl, hb1⟩))
    exact hK _ _ hb1 (HI.out.trans (hb1.mono HI.out.size)) rfl
  · intro L a wx Q' hL hi H F hK
    try dsimp only at hi
    have h3 : a.tmps[3]? = some (.pointer (some ⟨w.heap.size + 1, 0, none⟩)) := F 3 rfl
    have HI := Lib.hid hi
    clear H F hi hL
    go_wp2_with fail
    exact hK _ _ (Below.refl _ _) HI.out rfl
  · intro L a wx Q' hL hi H F hK
    try dsimp only at hi
    obtain ⟨_, h48, rfl⟩ := H 3 ⟨.data, by simp, rfl⟩ _ rfl
    replace h48 := h48 _ rfl
    have HI := Lib.hid hi
    clear H F hi hL
    have kq0 : wx.cell? ⟨w.heap.size + 1, 1, none⟩ = some (.int .u64 y.src.a) := (Whole.under HI.out HY.out (Whole.lt HY.out)).cell 1
    have kq1 : wx.cell? ⟨w.heap.size + 1, 2, none⟩ = some (.int .u64 y.src.b) := (Whole.under HI.out HY.out (Whole.lt HY.out)).cell 2
    have kq2 : wx.cell? ⟨w.heap.size + 1, 3, none⟩ = some (.int .u64 y.src.c) := (Whole.under HI.out HY.out (Whole.lt HY.out)).cell 3
    have kq3 : wx.cell? ⟨w.heap.size + 1, 4, none⟩ = some (.int .u64 y.src.d) := (Whole.under HI.out HY.out (Whole.lt HY.out)).cell 4
    go_wp2_with fail
    exact hK _ _ (Below.refl _ _) HI.out rfl
  · intro L a wx Q' hL hi H F hK
    try dsimp only at hi
    obtain ⟨_, h49, rfl⟩ := H 4 ⟨.data, by simp, rfl⟩ _ rfl
    replace h49 := h49 _ rfl
    have HI := Lib.hid hi
    clear H F hi hL
    go_wp2_with (go_at_call 75; go_must (refine (rleast_any wx y.src HOY.out.src).mono ?_; rintro e w1 ⟨rfl, hb1⟩))
    exact hK _ _ hb1 (HI.out.trans (hb1.mono HI.out.size)) rfl
  · intro L a wx Q' hL hi H F hK
    try dsimp only at hi
    obtain ⟨_, h47, rfl⟩ := H 2 ⟨.data, by simp, rfl⟩ _ rfl
    replace h47 := h47 _ rfl
    obtain ⟨_, h50, rfl⟩ := H 5 ⟨.data, by simp, rfl⟩ _ rfl
    replace h50 := h50 _ rfl
    have HI := Lib.hid hi
    clear H F hi hL
    go_wp2_with fail
    exact hK _ _ (Below.refl _ _) HI.out rfl
  · intro a wx hl L hi hL Q' hK
    try dsimp only at hi
    have HB := Lib.hid hi
    clear hi hL
    obtain ⟨_, rfl, _, rfl, _, rfl, _, rfl, _, rfl, _, rfl, _, rfl, rfl⟩ := hl
    simp only [List.setIfInBounds_toArray, List.set_cons_zero, List.set_cons_succ]
    go_wp2_with fail
    go_ret
    exact ⟨rfl, HB0.out.trans (HB.out.mono HB0.out.size)⟩

end Go.Proofs.YtmkfabdkadocdaaDoor
