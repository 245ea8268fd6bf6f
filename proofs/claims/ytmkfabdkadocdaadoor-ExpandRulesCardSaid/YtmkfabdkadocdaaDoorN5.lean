import Derived.Test.YtmkfabdkadocdaaDoorN4
/-
  expand.matches; the reference's vector.
-/
namespace Go.Proofs.YtmkfabdkadocdaaDoor
open Go Go.RowKit

/-- Whether a pair is one of a rule. -/
def ARule.fit (r : ARule) (s t : Int) : Bool := r.src.mem s && (r.tgt.mem t || (r.self && decide (s = t)))
set_option maxRecDepth 100000 in
set_option maxHeartbeats 4000000 in
theorem matches_0 (w : World) (r : ARule) (hr : r.Ok) (s t : Int) (ha : r.src.mem s = false) : Calls Tryd.prog 36 #[.agg #[.int .i64 r.kind, .int .u64 r.src.a, .int .u64 r.src.b, .int .u64 r.src.c, .int .u64 r.src.d, .int .u64 r.tgt.a, .int .u64 r.tgt.b, .int .u64 r.tgt.c, .int .u64 r.tgt.d, .bool r.self, .int .i64 r.cls, .int .u32 r.perms, .int .i64 r.cond], .int .i64 s, .int .i64 t] w fun e w' => e = .returned (.bool false) ∧ Below w.heap.size w w' := by
  have HR := Lib.hid hr
  have HA := Lib.hid ha
  clear hr ha
  obtain ⟨wo, hwo⟩ : ∃ wo, wo = (w.alloc (.cells #[.int .i64 r.kind, .int .u64 r.src.a, .int .u64 r.src.b, .int .u64 r.src.c, .int .u64 r.src.d, .int .u64 r.tgt.a, .int .u64 r.tgt.b, .int .u64 r.tgt.c, .int .u64 r.tgt.d, .bool r.self, .int .i64 r.cls, .int .u32 r.perms, .int .i64 r.cond] 27)) := ⟨_, rfl⟩
  have HW0 := Lib.hid (show Whole wo w.heap.size 27 #[.int .i64 r.kind, .int .u64 r.src.a, .int .u64 r.src.b, .int .u64 r.src.c, .int .u64 r.src.d, .int .u64 r.tgt.a, .int .u64 r.tgt.b, .int .u64 r.tgt.c, .int .u64 r.tgt.d, .bool r.self, .int .i64 r.cls, .int .u32 r.perms, .int .i64 r.cond] by rw [hwo]; exact Whole.new w 27 _)
  have HBO := Lib.hid (show Below w.heap.size w wo by rw [hwo]; exact (Below.refl _ w).alloc (Nat.le_refl _) _)
  have k1 : wo.cell? ⟨w.heap.size, 1, none⟩ = some (.int .u64 r.src.a) := HW0.out.cell 1
  have k2 : wo.cell? ⟨w.heap.size, 2, none⟩ = some (.int .u64 r.src.b) := HW0.out.cell 2
  have k3 : wo.cell? ⟨w.heap.size, 3, none⟩ = some (.int .u64 r.src.c) := HW0.out.cell 3
  have k4 : wo.cell? ⟨w.heap.size, 4, none⟩ = some (.int .u64 r.src.d) := HW0.out.cell 4
  go_enter Tryd.func36, Tryd.ntmps36
  go_upto_region 1 with (fail)
  rw [← hwo]
  clear hwo
  go_wp2_with (first | (have hZ := HA; clear hZ; go_at_call 46; go_must (refine (show Calls Tryd.prog 46 _ _ (fun e w' => e = .returned (.bool false) ∧ Below wo.heap.size wo w') from by have h := has_any wo r.src HR.out.src s; rw [HA.out] at h; exact h).mono ?_; rintro e w1 ⟨rfl, hb1⟩; have HB1 := Lib.hid hb1; clear hb1 HA; clear k1 k2 k3 k4)))
  go_ret
  exact ⟨rfl, HBO.out.trans (HB1.out.mono HBO.out.size)⟩
set_option maxRecDepth 100000 in
set_option maxHeartbeats 4000000 in
theorem matches_1 (w : World) (r : ARule) (hr : r.Ok) (s t : Int) (ha : r.src.mem s = true) (ht : r.tgt.mem t = true) : Calls Tryd.prog 36 #[.agg #[.int .i64 r.kind, .int .u64 r.src.a, .int .u64 r.src.b, .int .u64 r.src.c, .int .u64 r.src.d, .int .u64 r.tgt.a, .int .u64 r.tgt.b, .int .u64 r.tgt.c, .int .u64 r.tgt.d, .bool r.self, .int .i64 r.cls, .int .u32 r.perms, .int .i64 r.cond], .int .i64 s, .int .i64 t] w fun e w' => e = .returned (.bool true) ∧ Below w.heap.size w w' := by
  have HR := Lib.hid hr
  have HA := Lib.hid ha
  have HT := Lib.hid ht
  clear hr ha ht
  obtain ⟨wo, hwo⟩ : ∃ wo, wo = (w.alloc (.cells #[.int .i64 r.kind, .int .u64 r.src.a, .int .u64 r.src.b, .int .u64 r.src.c, .int .u64 r.src.d, .int .u64 r.tgt.a, .int .u64 r.tgt.b, .int .u64 r.tgt.c, .int .u64 r.tgt.d, .bool r.self, .int .i64 r.cls, .int .u32 r.perms, .int .i64 r.cond] 27)) := ⟨_, rfl⟩
  have HW0 := Lib.hid (show Whole wo w.heap.size 27 #[.int .i64 r.kind, .int .u64 r.src.a, .int .u64 r.src.b, .int .u64 r.src.c, .int .u64 r.src.d, .int .u64 r.tgt.a, .int .u64 r.tgt.b, .int .u64 r.tgt.c, .int .u64 r.tgt.d, .bool r.self, .int .i64 r.cls, .int .u32 r.perms, .int .i64 r.cond] by rw [hwo]; exact Whole.new w 27 _)
  have HBO := Lib.hid (show Below w.heap.size w wo by rw [hwo]; exact (Below.refl _ w).alloc (Nat.le_refl _) _)
  have k1 : wo.cell? ⟨w.heap.size, 1, none⟩ = some (.int .u64 r.src.a) := HW0.out.cell 1
  have k2 : wo.cell? ⟨w.heap.size, 2, none⟩ = some (.int .u64 r.src.b) := HW0.out.cell 2
  have k3 : wo.cell? ⟨w.heap.size, 3, none⟩ = some (.int .u64 r.src.c) := HW0.out.cell 3
  have k4 : wo.cell? ⟨w.heap.size, 4, none⟩ = some (.int .u64 r.src.d) := HW0.out.cell 4
  go_enter Tryd.func36, Tryd.ntmps36
  go_upto_region 1 with (fail)
  rw [← hwo]
  clear hwo
  go_wp2_with (first | (have hZ := HA; clear hZ; go_at_call 46; go_must (refine (show Calls Tryd.prog 46 _ _ (fun e w' => e = .returned (.bool true) ∧ Below wo.heap.size wo w') from by have h := has_any wo r.src HR.out.src s; rw [HA.out] at h; exact h).mono ?_; rintro e w1 ⟨rfl, hb1⟩; have HB1 := Lib.hid hb1; clear hb1 HA; have HW1 := Lib.hid (Whole.under HB1.out HW0.out HW0.out.lt); clear k1 k2 k3 k4; have k5 : w1.cell? ⟨w.heap.size, 5, none⟩ = some (.int .u64 r.tgt.a) := HW1.out.cell 5; have k6 : w1.cell? ⟨w.heap.size, 6, none⟩ = some (.int .u64 r.tgt.b) := HW1.out.cell 6; have k7 : w1.cell? ⟨w.heap.size, 7, none⟩ = some (.int .u64 r.tgt.c) := HW1.out.cell 7; have k8 : w1.cell? ⟨w.heap.size, 8, none⟩ = some (.int .u64 r.tgt.d) := HW1.out.cell 8)) | (have hZ := HT; clear hZ; go_at_call 46; go_must (refine (show Calls Tryd.prog 46 _ _ (fun e w' => e = .returned (.bool true) ∧ Below w1.heap.size w1 w') from by have h := has_any w1 r.tgt HR.out.tgt t; rw [HT.out] at h; exact h).mono ?_; rintro e w2 ⟨rfl, hb1⟩; have HB2 := Lib.hid hb1; clear hb1 HT; clear k5 k6 k7 k8)))
  go_ret
  exact ⟨rfl, (HBO.out.trans (HB1.out.mono HBO.out.size)).trans (HB2.out.mono (by have := HBO.out.size; have := HB1.out.size; omega))⟩
set_option maxRecDepth 100000 in
set_option maxHeartbeats 4000000 in
theorem matches_2 (w : World) (r : ARule) (hr : r.Ok) (s t : Int) (ha : r.src.mem s = true) (ht : r.tgt.mem t = false) (hs : r.self = false) : Calls Tryd.prog 36 #[.agg #[.int .i64 r.kind, .int .u64 r.src.a, .int .u64 r.src.b, .int .u64 r.src.c, .int .u64 r.src.d, .int .u64 r.tgt.a, .int .u64 r.tgt.b, .int .u64 r.tgt.c, .int .u64 r.tgt.d, .bool r.self, .int .i64 r.cls, .int .u32 r.perms, .int .i64 r.cond], .int .i64 s, .int .i64 t] w fun e w' => e = .returned (.bool false) ∧ Below w.heap.size w w' := by
  have HR := Lib.hid hr
  have HA := Lib.hid ha
  have HT := Lib.hid ht
  have HSF := Lib.hid hs
  clear hr ha ht hs
  obtain ⟨wo, hwo⟩ : ∃ wo, wo = (w.alloc (.cells #[.int .i64 r.kind, .int .u64 r.src.a, .int .u64 r.src.b, .int .u64 r.src.c, .int .u64 r.src.d, .int .u64 r.tgt.a, .int .u64 r.tgt.b, .int .u64 r.tgt.c, .int .u64 r.tgt.d, .bool r.self, .int .i64 r.cls, .int .u32 r.perms, .int .i64 r.cond] 27)) := ⟨_, rfl⟩
  have HW0 := Lib.hid (show Whole wo w.heap.size 27 #[.int .i64 r.kind, .int .u64 r.src.a, .int .u64 r.src.b, .int .u64 r.src.c, .int .u64 r.src.d, .int .u64 r.tgt.a, .int .u64 r.tgt.b, .int .u64 r.tgt.c, .int .u64 r.tgt.d, .bool r.self, .int .i64 r.cls, .int .u32 r.perms, .int .i64 r.cond] by rw [hwo]; exact Whole.new w 27 _)
  have HBO := Lib.hid (show Below w.heap.size w wo by rw [hwo]; exact (Below.refl _ w).alloc (Nat.le_refl _) _)
  have k1 : wo.cell? ⟨w.heap.size, 1, none⟩ = some (.int .u64 r.src.a) := HW0.out.cell 1
  have k2 : wo.cell? ⟨w.heap.size, 2, none⟩ = some (.int .u64 r.src.b) := HW0.out.cell 2
  have k3 : wo.cell? ⟨w.heap.size, 3, none⟩ = some (.int .u64 r.src.c) := HW0.out.cell 3
  have k4 : wo.cell? ⟨w.heap.size, 4, none⟩ = some (.int .u64 r.src.d) := HW0.out.cell 4
  go_enter Tryd.func36, Tryd.ntmps36
  go_upto_region 1 with (fail)
  rw [← hwo]
  clear hwo
  go_wp2_with (first | (have hZ := HA; clear hZ; go_at_call 46; go_must (refine (show Calls Tryd.prog 46 _ _ (fun e w' => e = .returned (.bool true) ∧ Below wo.heap.size wo w') from by have h := has_any wo r.src HR.out.src s; rw [HA.out] at h; exact h).mono ?_; rintro e w1 ⟨rfl, hb1⟩; have HB1 := Lib.hid hb1; clear hb1 HA; have HW1 := Lib.hid (Whole.under HB1.out HW0.out HW0.out.lt); clear k1 k2 k3 k4; have k5 : w1.cell? ⟨w.heap.size, 5, none⟩ = some (.int .u64 r.tgt.a) := HW1.out.cell 5; have k6 : w1.cell? ⟨w.heap.size, 6, none⟩ = some (.int .u64 r.tgt.b) := HW1.out.cell 6; have k7 : w1.cell? ⟨w.heap.size, 7, none⟩ = some (.int .u64 r.tgt.c) := HW1.out.cell 7; have k8 : w1.cell? ⟨w.heap.size, 8, none⟩ = some (.int .u64 r.tgt.d) := HW1.out.cell 8)) | (have hZ := HT; clear hZ; go_at_call 46; go_must (refine (show Calls Tryd.prog 46 _ _ (fun e w' => e = .returned (.bool false) ∧ Below w1.heap.size w1 w') from by have h := has_any w1 r.tgt HR.out.tgt t; rw [HT.out] at h; exact h).mono ?_; rintro e w2 ⟨rfl, hb1⟩; have HB2 := Lib.hid hb1; clear hb1 HT; clear k5 k6 k7 k8; have HW2 := Lib.hid (Whole.under HB2.out HW1.out HW1.out.lt); have k9 : w2.cell? ⟨w.heap.size, 9, none⟩ = some (.bool false) := (by have h1 := HW2.out.cell 9; rw [show r.self = false from HSF.out] at h1; exact h1))))
  go_ret
  exact ⟨rfl, (HBO.out.trans (HB1.out.mono HBO.out.size)).trans (HB2.out.mono (by have := HBO.out.size; have := HB1.out.size; omega))⟩
set_option maxRecDepth 100000 in
set_option maxHeartbeats 4000000 in
theorem matches_3 (w : World) (r : ARule) (hr : r.Ok) (s t : Int) (ha : r.src.mem s = true) (ht : r.tgt.mem t = false) (hs : r.self = true) (he : s = t) : Calls Tryd.prog 36 #[.agg #[.int .i64 r.kind, .int .u64 r.src.a, .int .u64 r.src.b, .int .u64 r.src.c, .int .u64 r.src.d, .int .u64 r.tgt.a, .int .u64 r.tgt.b, .int .u64 r.tgt.c, .int .u64 r.tgt.d, .bool r.self, .int .i64 r.cls, .int .u32 r.perms, .int .i64 r.cond], .int .i64 s, .int .i64 t] w fun e w' => e = .returned (.bool true) ∧ Below w.heap.size w w' := by
  have HR := Lib.hid hr
  have HA := Lib.hid ha
  have HT := Lib.hid ht
  have HSF := Lib.hid hs
  clear hr ha ht hs
  have hd : ((s : Int) == t) = true := by simp [he]
  clear he
  obtain ⟨wo, hwo⟩ : ∃ wo, wo = (w.alloc (.cells #[.int .i64 r.kind, .int .u64 r.src.a, .int .u64 r.src.b, .int .u64 r.src.c, .int .u64 r.src.d, .int .u64 r.tgt.a, .int .u64 r.tgt.b, .int .u64 r.tgt.c, .int .u64 r.tgt.d, .bool r.self, .int .i64 r.cls, .int .u32 r.perms, .int .i64 r.cond] 27)) := ⟨_, rfl⟩
  have HW0 := Lib.hid (show Whole wo w.heap.size 27 #[.int .i64 r.kind, .int .u64 r.src.a, .int .u64 r.src.b, .int .u64 r.src.c, .int .u64 r.src.d, .int .u64 r.tgt.a, .int .u64 r.tgt.b, .int .u64 r.tgt.c, .int .u64 r.tgt.d, .bool r.self, .int .i64 r.cls, .int .u32 r.perms, .int .i64 r.cond] by rw [hwo]; exact Whole.new w 27 _)
  have HBO := Lib.hid (show Below w.heap.size w wo by rw [hwo]; exact (Below.refl _ w).alloc (Nat.le_refl _) _)
  have k1 : wo.cell? ⟨w.heap.size, 1, none⟩ = some (.int .u64 r.src.a) := HW0.out.cell 1
  have k2 : wo.cell? ⟨w.heap.size, 2, none⟩ = some (.int .u64 r.src.b) := HW0.out.cell 2
  have k3 : wo.cell? ⟨w.heap.size, 3, none⟩ = some (.int .u64 r.src.c) := HW0.out.cell 3
  have k4 : wo.cell? ⟨w.heap.size, 4, none⟩ = some (.int .u64 r.src.d) := HW0.out.cell 4
  go_enter Tryd.func36, Tryd.ntmps36
  go_upto_region 1 with (fail)
  rw [← hwo]
  clear hwo
  go_wp2_with (first | (have hZ := HA; clear hZ; go_at_call 46; go_must (refine (show Calls Tryd.prog 46 _ _ (fun e w' => e = .returned (.bool true) ∧ Below wo.heap.size wo w') from by have h := has_any wo r.src HR.out.src s; rw [HA.out] at h; exact h).mono ?_; rintro e w1 ⟨rfl, hb1⟩; have HB1 := Lib.hid hb1; clear hb1 HA; have HW1 := Lib.hid (Whole.under HB1.out HW0.out HW0.out.lt); clear k1 k2 k3 k4; have k5 : w1.cell? ⟨w.heap.size, 5, none⟩ = some (.int .u64 r.tgt.a) := HW1.out.cell 5; have k6 : w1.cell? ⟨w.heap.size, 6, none⟩ = some (.int .u64 r.tgt.b) := HW1.out.cell 6; have k7 : w1.cell? ⟨w.heap.size, 7, none⟩ = some (.int .u64 r.tgt.c) := HW1.out.cell 7; have k8 : w1.cell? ⟨w.heap.size, 8, none⟩ = some (.int .u64 r.tgt.d) := HW1.out.cell 8)) | (have hZ := HT; clear hZ; go_at_call 46; go_must (refine (show Calls Tryd.prog 46 _ _ (fun e w' => e = .returned (.bool false) ∧ Below w1.heap.size w1 w') from by have h := has_any w1 r.tgt HR.out.tgt t; rw [HT.out] at h; exact h).mono ?_; rintro e w2 ⟨rfl, hb1⟩; have HB2 := Lib.hid hb1; clear hb1 HT; clear k5 k6 k7 k8; have HW2 := Lib.hid (Whole.under HB2.out HW1.out HW1.out.lt); have k9 : w2.cell? ⟨w.heap.size, 9, none⟩ = some (.bool true) := (by have h1 := HW2.out.cell 9; rw [show r.self = true from HSF.out] at h1; exact h1))))
  go_ret
  exact ⟨rfl, (HBO.out.trans (HB1.out.mono HBO.out.size)).trans (HB2.out.mono (by have := HBO.out.size; have := HB1.out.size; omega))⟩
set_option maxRecDepth 100000 in
set_option maxHeartbeats 4000000 in
theorem matches_4 (w : World) (r : ARule) (hr : r.Ok) (s t : Int) (ha : r.src.mem s = true) (ht : r.tgt.mem t = false) (hs : r.self = true) (he : ¬ s = t) : Calls Tryd.prog 36 #[.agg #[.int .i64 r.kind, .int .u64 r.src.a, .int .u64 r.src.b, .int .u64 r.src.c, .int .u64 r.src.d, .int .u64 r.tgt.a, .int .u64 r.tgt.b, .int .u64 r.tgt.c, .int .u64 r.tgt.d, .bool r.self, .int .i64 r.cls, .int .u32 r.perms, .int .i64 r.cond], .int .i64 s, .int .i64 t] w fun e w' => e = .returned (.bool false) ∧ Below w.heap.size w w' := by
  have HR := Lib.hid hr
  have HA := Lib.hid ha
  have HT := Lib.hid ht
  have HSF := Lib.hid hs
  clear hr ha ht hs
  have hd : ((s : Int) == t) = false := by simp [he]
  obtain ⟨wo, hwo⟩ : ∃ wo, wo = (w.alloc (.cells #[.int .i64 r.kind, .int .u64 r.src.a, .int .u64 r.src.b, .int .u64 r.src.c, .int .u64 r.src.d, .int .u64 r.tgt.a, .int .u64 r.tgt.b, .int .u64 r.tgt.c, .int .u64 r.tgt.d, .bool r.self, .int .i64 r.cls, .int .u32 r.perms, .int .i64 r.cond] 27)) := ⟨_, rfl⟩
  have HW0 := Lib.hid (show Whole wo w.heap.size 27 #[.int .i64 r.kind, .int .u64 r.src.a, .int .u64 r.src.b, .int .u64 r.src.c, .int .u64 r.src.d, .int .u64 r.tgt.a, .int .u64 r.tgt.b, .int .u64 r.tgt.c, .int .u64 r.tgt.d, .bool r.self, .int .i64 r.cls, .int .u32 r.perms, .int .i64 r.cond] by rw [hwo]; exact Whole.new w 27 _)
  have HBO := Lib.hid (show Below w.heap.size w wo by rw [hwo]; exact (Below.refl _ w).alloc (Nat.le_refl _) _)
  have k1 : wo.cell? ⟨w.heap.size, 1, none⟩ = some (.int .u64 r.src.a) := HW0.out.cell 1
  have k2 : wo.cell? ⟨w.heap.size, 2, none⟩ = some (.int .u64 r.src.b) := HW0.out.cell 2
  have k3 : wo.cell? ⟨w.heap.size, 3, none⟩ = some (.int .u64 r.src.c) := HW0.out.cell 3
  have k4 : wo.cell? ⟨w.heap.size, 4, none⟩ = some (.int .u64 r.src.d) := HW0.out.cell 4
  go_enter Tryd.func36, Tryd.ntmps36
  go_upto_region 1 with (fail)
  rw [← hwo]
  clear hwo
  go_wp2_with (first | (have hZ := HA; clear hZ; go_at_call 46; go_must (refine (show Calls Tryd.prog 46 _ _ (fun e w' => e = .returned (.bool true) ∧ Below wo.heap.size wo w') from by have h := has_any wo r.src HR.out.src s; rw [HA.out] at h; exact h).mono ?_; rintro e w1 ⟨rfl, hb1⟩; have HB1 := Lib.hid hb1; clear hb1 HA; have HW1 := Lib.hid (Whole.under HB1.out HW0.out HW0.out.lt); clear k1 k2 k3 k4; have k5 : w1.cell? ⟨w.heap.size, 5, none⟩ = some (.int .u64 r.tgt.a) := HW1.out.cell 5; have k6 : w1.cell? ⟨w.heap.size, 6, none⟩ = some (.int .u64 r.tgt.b) := HW1.out.cell 6; have k7 : w1.cell? ⟨w.heap.size, 7, none⟩ = some (.int .u64 r.tgt.c) := HW1.out.cell 7; have k8 : w1.cell? ⟨w.heap.size, 8, none⟩ = some (.int .u64 r.tgt.d) := HW1.out.cell 8)) | (have hZ := HT; clear hZ; go_at_call 46; go_must (refine (show Calls Tryd.prog 46 _ _ (fun e w' => e = .returned (.bool false) ∧ Below w1.heap.size w1 w') from by have h := has_any w1 r.tgt HR.out.tgt t; rw [HT.out] at h; exact h).mono ?_; rintro e w2 ⟨rfl, hb1⟩; have HB2 := Lib.hid hb1; clear hb1 HT; clear k5 k6 k7 k8; have HW2 := Lib.hid (Whole.under HB2.out HW1.out HW1.out.lt); have k9 : w2.cell? ⟨w.heap.size, 9, none⟩ = some (.bool true) := (by have h1 := HW2.out.cell 9; rw [show r.self = true from HSF.out] at h1; exact h1))))
  go_ret
  exact ⟨rfl, (HBO.out.trans (HB1.out.mono HBO.out.size)).trans (HB2.out.mono (by have := HBO.out.size; have := HB1.out.size; omega))⟩

theorem matches_any (w : World) (r : ARule) (hr : r.Ok) (s t : Int) : Calls Tryd.prog 36 #[.agg #[.int .i64 r.kind, .int .u64 r.src.a, .int .u64 r.src.b, .int .u64 r.src.c, .int .u64 r.src.d, .int .u64 r.tgt.a, .int .u64 r.tgt.b, .int .u64 r.tgt.c, .int .u64 r.tgt.d, .bool r.self, .int .i64 r.cls, .int .u32 r.perms, .int .i64 r.cond], .int .i64 s, .int .i64 t] w fun e w' => e = .returned (.bool (r.fit s t)) ∧ Below w.heap.size w w' := by
  unfold ARule.fit
  cases ha : r.src.mem s with
  | false => exact matches_0 w r hr s t ha
  | true =>
    cases ht : r.tgt.mem t with
    | true => exact matches_1 w r hr s t ha ht
    | false =>
      cases hs : r.self with
      | false =>
        have h := matches_2 w r hr s t ha ht hs
        rw [hs] at h
        exact h
      | true =>
        by_cases he : s = t
        · have h := matches_3 w r hr s t ha ht hs he
          rw [hs] at h
          simpa [he] using h
        · have h := matches_4 w r hr s t ha ht hs he
          rw [hs] at h
          simpa [he] using h
theorem vector_1 (w : World) (x : AEntry) (k : Int) (h : k = 1) : Calls Tryd.prog 41 #[.agg #[.int .i64 x.src, .int .i64 x.tgt, .int .i64 x.cls, .int .i64 x.cond, .int .u32 x.allow, .int .u32 x.audit, .int .u32 x.dont], .int .i64 k] w fun e w' => e = .returned (.int .u32 x.allow) ∧ Below w.heap.size w w' := by
  subst h
  have k0 : (w.alloc (.cells #[.int .i64 x.src, .int .i64 x.tgt, .int .i64 x.cls, .int .i64 x.cond, .int .u32 x.allow, .int .u32 x.audit, .int .u32 x.dont] 61)).cell? ⟨w.heap.size, 4, none⟩ = some (.int .u32 x.allow) := (Whole.new w 61 #[.int .i64 x.src, .int .i64 x.tgt, .int .i64 x.cls, .int .i64 x.cond, .int .u32 x.allow, .int .u32 x.audit, .int .u32 x.dont]).cell 4
  go_enter Tryd.func41, Tryd.ntmps41
  go_wp2
  go_ret
  exact ⟨rfl, (Below.refl _ w).alloc (Nat.le_refl _) _⟩
theorem vector_2 (w : World) (x : AEntry) (k : Int) (h : k = 2) : Calls Tryd.prog 41 #[.agg #[.int .i64 x.src, .int .i64 x.tgt, .int .i64 x.cls, .int .i64 x.cond, .int .u32 x.allow, .int .u32 x.audit, .int .u32 x.dont], .int .i64 k] w fun e w' => e = .returned (.int .u32 x.audit) ∧ Below w.heap.size w w' := by
  subst h
  have k0 : (w.alloc (.cells #[.int .i64 x.src, .int .i64 x.tgt, .int .i64 x.cls, .int .i64 x.cond, .int .u32 x.allow, .int .u32 x.audit, .int .u32 x.dont] 61)).cell? ⟨w.heap.size, 5, none⟩ = some (.int .u32 x.audit) := (Whole.new w 61 #[.int .i64 x.src, .int .i64 x.tgt, .int .i64 x.cls, .int .i64 x.cond, .int .u32 x.allow, .int .u32 x.audit, .int .u32 x.dont]).cell 5
  go_enter Tryd.func41, Tryd.ntmps41
  go_wp2
  go_ret
  exact ⟨rfl, (Below.refl _ w).alloc (Nat.le_refl _) _⟩
theorem vector_3 (w : World) (x : AEntry) (k : Int) (h1 : ¬ k = 1) (h2 : ¬ k = 2) : Calls Tryd.prog 41 #[.agg #[.int .i64 x.src, .int .i64 x.tgt, .int .i64 x.cls, .int .i64 x.cond, .int .u32 x.allow, .int .u32 x.audit, .int .u32 x.dont], .int .i64 k] w fun e w' => e = .returned (.int .u32 x.dont) ∧ Below w.heap.size w w' := by
  have k0 : (w.alloc (.cells #[.int .i64 x.src, .int .i64 x.tgt, .int .i64 x.cls, .int .i64 x.cond, .int .u32 x.allow, .int .u32 x.audit, .int .u32 x.dont] 61)).cell? ⟨w.heap.size, 6, none⟩ = some (.int .u32 x.dont) := (Whole.new w 61 #[.int .i64 x.src, .int .i64 x.tgt, .int .i64 x.cls, .int .i64 x.cond, .int .u32 x.allow, .int .u32 x.audit, .int .u32 x.dont]).cell 6
  go_enter Tryd.func41, Tryd.ntmps41
  go_wp2
  go_ret
  exact ⟨rfl, (Below.refl _ w).alloc (Nat.le_refl _) _⟩

def AEntry.vec (x : AEntry) (k : Int) : Int := if k = 1 then x.allow else if k = 2 then x.audit else x.dont
theorem vector_any (w : World) (x : AEntry) (k : Int) : Calls Tryd.prog 41 #[.agg #[.int .i64 x.src, .int .i64 x.tgt, .int .i64 x.cls, .int .i64 x.cond, .int .u32 x.allow, .int .u32 x.audit, .int .u32 x.dont], .int .i64 k] w fun e w' => e = .returned (.int .u32 (x.vec k)) ∧ Below w.heap.size w w' := by
  unfold AEntry.vec
  by_cases h1 : k = 1
  · rw [if_pos h1]; exact vector_1 w x k h1
  · rw [if_neg h1]
    by_cases h2 : k = 2
    · rw [if_pos h2]; exact vector_2 w x k h2
    · rw [if_neg h2]; exact vector_3 w x k h1 h2
end Go.Proofs.YtmkfabdkadocdaaDoor
