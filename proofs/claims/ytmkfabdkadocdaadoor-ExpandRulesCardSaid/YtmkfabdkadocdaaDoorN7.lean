import Derived.Test.YtmkfabdkadocdaaDoorN5
import Derived.BigQuiet
/-
  The reference's fits.
-/
namespace Go.Proofs.YtmkfabdkadocdaaDoor
open Go Go.RowKit

set_option maxRecDepth 100000 in
set_option maxHeartbeats 4000000 in
theorem fits_on (w : World) (x : AEntry) (r : ARule) (h1 : ((x.cls : Int) == r.cls) = true) (h2 : ((x.cond : Int) == r.cond) = true) : Calls Tryd.prog 43 #[.agg #[.int .i64 x.src, .int .i64 x.tgt, .int .i64 x.cls, .int .i64 x.cond, .int .u32 x.allow, .int .u32 x.audit, .int .u32 x.dont], .agg #[.int .i64 r.kind, .int .u64 r.src.a, .int .u64 r.src.b, .int .u64 r.src.c, .int .u64 r.src.d, .int .u64 r.tgt.a, .int .u64 r.tgt.b, .int .u64 r.tgt.c, .int .u64 r.tgt.d, .bool r.self, .int .i64 r.cls, .int .u32 r.perms, .int .i64 r.cond]] w fun e w' => e = .returned (.bool (decide (x.vec r.kind = r.perms))) ∧ Below w.heap.size w w' := by
  have H1 := Lib.hid h1
  have H2 := Lib.hid h2
  clear h1 h2
  obtain ⟨wo, hwo⟩ : ∃ wo, wo = (w.alloc (.cells #[.int .i64 x.src, .int .i64 x.tgt, .int .i64 x.cls, .int .i64 x.cond, .int .u32 x.allow, .int .u32 x.audit, .int .u32 x.dont] 61)).alloc (.cells #[.int .i64 r.kind, .int .u64 r.src.a, .int .u64 r.src.b, .int .u64 r.src.c, .int .u64 r.src.d, .int .u64 r.tgt.a, .int .u64 r.tgt.b, .int .u64 r.tgt.c, .int .u64 r.tgt.d, .bool r.self, .int .i64 r.cls, .int .u32 r.perms, .int .i64 r.cond] 27) := ⟨_, rfl⟩
  have HX := Lib.hid (show Whole wo w.heap.size 61 #[.int .i64 x.src, .int .i64 x.tgt, .int .i64 x.cls, .int .i64 x.cond, .int .u32 x.allow, .int .u32 x.audit, .int .u32 x.dont] by rw [hwo]; exact (Whole.new w 61 #[.int .i64 x.src, .int .i64 x.tgt, .int .i64 x.cls, .int .i64 x.cond, .int .u32 x.allow, .int .u32 x.audit, .int .u32 x.dont]).alloc _)
  have HR := Lib.hid (show Whole wo (w.heap.size + 1) 27 #[.int .i64 r.kind, .int .u64 r.src.a, .int .u64 r.src.b, .int .u64 r.src.c, .int .u64 r.src.d, .int .u64 r.tgt.a, .int .u64 r.tgt.b, .int .u64 r.tgt.c, .int .u64 r.tgt.d, .bool r.self, .int .i64 r.cls, .int .u32 r.perms, .int .i64 r.cond] by rw [hwo]; exact whole_two w _ #[.int .i64 r.kind, .int .u64 r.src.a, .int .u64 r.src.b, .int .u64 r.src.c, .int .u64 r.src.d, .int .u64 r.tgt.a, .int .u64 r.tgt.b, .int .u64 r.tgt.c, .int .u64 r.tgt.d, .bool r.self, .int .i64 r.cls, .int .u32 r.perms, .int .i64 r.cond] _)
  have HB0 := Lib.hid (show Below w.heap.size w wo by rw [hwo]; exact ((Below.refl _ w).alloc (Nat.le_refl _) _).alloc (by simp) _)
  go_enter Tryd.func43, Tryd.ntmps43
  go_upto_region 1 with (fail)
  rw [← hwo]
  clear hwo
  refine wp_region_last (fun w w' => Below w.heap.size w w') [some 5, some 6, some 7, some 8, some 9, some 10, some 11, some 12, some 13, some 14, some 15, some 16, some 17, some 18, some 19, some 20, some 21, some 22, some 23, some 24, some 25] [isV (.pointer (some ⟨w.heap.size, 2, none⟩)), isV (.int .i64 x.cls), isV (.pointer (some ⟨w.heap.size + 1, 10, none⟩)), isV (.int .i64 r.cls), isV (.bool true), isV (.bool true), isV (.pointer (some ⟨w.heap.size, 3, none⟩)), isV (.int .i64 x.cond), isV (.pointer (some ⟨w.heap.size + 1, 12, none⟩)), isV (.int .i64 r.cond), isV (.bool true), isV (.bool true), isV (.bool true), isV (.agg #[.int .i64 x.src, .int .i64 x.tgt, .int .i64 x.cls, .int .i64 x.cond, .int .u32 x.allow, .int .u32 x.audit, .int .u32 x.dont]), isV (.pointer (some ⟨w.heap.size + 1, 0, none⟩)), isV (.int .i64 r.kind), isV (.int .u32 (x.vec r.kind)), isV (.pointer (some ⟨w.heap.size + 1, 11, none⟩)), isV (.int .u32 r.perms), isV (.bool (decide (x.vec r.kind = r.perms))), isV (.bool (decide (x.vec r.kind = r.perms)))] (fun _ w' => Below wo.heap.size wo w') 21 (by kernel_rfl) (by kernel_rfl) (by kernel_rfl) rfl (by decide) rfl rfl ((Below.refl _ _).drew) ⟨lasts_is _, lasts_is _, lasts_is _, lasts_is _, lasts_is _, lasts_is _, lasts_is _, lasts_is _, lasts_is _, lasts_is _, lasts_is _, lasts_is _, lasts_is _, lasts_is _, lasts_is _, lasts_is _, lasts_is _, lasts_is _, lasts_is _, lasts_is _, lasts_is _, trivial⟩ ⟨(fun _ => lastsR_is _), (fun _ => lastsR_is _), (fun _ => lastsR_is _), (fun _ => lastsR_is _), (fun _ => lastsR_is _), (fun _ => lastsR_is _), (fun _ => lastsR_is _), (fun _ => lastsR_is _), (fun _ => lastsR_is _), (fun _ => lastsR_is _), (fun _ => lastsR_is _), (fun _ => lastsR_is _), (fun _ => lastsR_is _), (fun _ => lastsR_is _), (fun _ => lastsR_is _), (fun _ => lastsR_is _), (fun _ => lastsR_is _), (fun _ => lastsR_is _), (fun _ => lastsR_is _), (fun _ => lastsR_is _), (fun _ => lastsR_is _), trivial⟩ ⟨?_, ?_, ?_, ?_, ?_, ?_, ?_, ?_, ?_, ?_, ?_, ?_, ?_, ?_, ?_, ?_, ?_, ?_, ?_, ?_, ?_, ?_⟩
  · intro L a wx Q' hL hi H F hK
    try dsimp only at hi
    have h2 : a.tmps[2]? = some (.pointer (some ⟨w.heap.size, 0, none⟩)) := F 2 rfl
    have HI := Lib.hid hi
    clear H F hi hL
    go_wp2_with fail
    exact hK _ _ (Below.refl _ _) HI.out rfl
  · intro L a wx Q' hL hi H F hK
    try dsimp only at hi
    obtain ⟨_, h5, rfl⟩ := H 0 ⟨.data, by simp, rfl⟩ _ rfl
    replace h5 := h5 _ rfl
    have HI := Lib.hid hi
    clear H F hi hL
    have kq0 : wx.cell? ⟨w.heap.size, 2, none⟩ = some (.int .i64 x.cls) := (Whole.under HI.out HX.out (Whole.lt HX.out)).cell 2
    go_wp2_with fail
    exact hK _ _ (Below.refl _ _) HI.out rfl
  · intro L a wx Q' hL hi H F hK
    try dsimp only at hi
    have h3 : a.tmps[3]? = some (.pointer (some ⟨w.heap.size + 1, 0, none⟩)) := F 3 rfl
    have HI := Lib.hid hi
    clear H F hi hL
    go_wp2_with fail
    exact hK _ _ (Below.refl _ _) HI.out rfl
  · intro L a wx Q' hL hi H F hK
    try dsimp only at hi
    obtain ⟨_, h7, rfl⟩ := H 2 ⟨.data, by simp, rfl⟩ _ rfl
    replace h7 := h7 _ rfl
    have HI := Lib.hid hi
    clear H F hi hL
    have kq0 : wx.cell? ⟨w.heap.size + 1, 10, none⟩ = some (.int .i64 r.cls) := (Whole.under HI.out HR.out (Whole.lt HR.out)).cell 10
    go_wp2_with fail
    exact hK _ _ (Below.refl _ _) HI.out rfl
  · intro L a wx Q' hL hi H F hK
    try dsimp only at hi
    obtain ⟨_, h6, rfl⟩ := H 1 ⟨.data, by simp, rfl⟩ _ rfl
    replace h6 := h6 _ rfl
    obtain ⟨_, h8, rfl⟩ := H 3 ⟨.data, by simp, rfl⟩ _ rfl
    replace h8 := h8 _ rfl
    have HI := Lib.hid hi
    clear H F hi hL
    have hd := H1.out
    go_wp2_with fail
    exact hK _ _ (Below.refl _ _) HI.out rfl
  · intro L a wx Q' hL hi H F hK
    try dsimp only at hi
    obtain ⟨_, h9, rfl⟩ := H 4 ⟨.data, by simp, rfl⟩ _ rfl
    replace h9 := h9 _ rfl
    have HI := Lib.hid hi
    clear H F hi hL
    go_wp2_with fail
    exact hK _ _ (Below.refl _ _) HI.out rfl
  · intro L a wx Q' hL hi H F hK
    try dsimp only at hi
    obtain ⟨_, h10, rfl⟩ := H 5 ⟨.guard, by simp, rfl⟩ _ rfl
    replace h10 := h10 _ rfl
    have h2 : a.tmps[2]? = some (.pointer (some ⟨w.heap.size, 0, none⟩)) := F 2 rfl
    have HI := Lib.hid hi
    clear H F hi hL
    go_wp2_with fail
    exact hK _ _ (Below.refl _ _) HI.out rfl
  · intro L a wx Q' hL hi H F hK
    try dsimp only at hi
    obtain ⟨_, h11, rfl⟩ := H 6 ⟨.data, by simp, rfl⟩ _ rfl
    replace h11 := h11 _ rfl
    obtain ⟨_, h10, rfl⟩ := H 5 ⟨.guard, by simp, rfl⟩ _ rfl
    replace h10 := h10 _ rfl
    have HI := Lib.hid hi
    clear H F hi hL
    have kq0 : wx.cell? ⟨w.heap.size, 3, none⟩ = some (.int .i64 x.cond) := (Whole.under HI.out HX.out (Whole.lt HX.out)).cell 3
    go_wp2_with fail
    exact hK _ _ (Below.refl _ _) HI.out rfl
  · intro L a wx Q' hL hi H F hK
    try dsimp only at hi
    obtain ⟨_, h10, rfl⟩ := H 5 ⟨.guard, by simp, rfl⟩ _ rfl
    replace h10 := h10 _ rfl
    have h3 : a.tmps[3]? = some (.pointer (some ⟨w.heap.size + 1, 0, none⟩)) := F 3 rfl
    have HI := Lib.hid hi
    clear H F hi hL
    go_wp2_with fail
    exact hK _ _ (Below.refl _ _) HI.out rfl
  · intro L a wx Q' hL hi H F hK
    try dsimp only at hi
    obtain ⟨_, h13, rfl⟩ := H 8 ⟨.data, by simp, rfl⟩ _ rfl
    replace h13 := h13 _ rfl
    obtain ⟨_, h10, rfl⟩ := H 5 ⟨.guard, by simp, rfl⟩ _ rfl
    replace h10 := h10 _ rfl
    have HI := Lib.hid hi
    clear H F hi hL
    have kq0 : wx.cell? ⟨w.heap.size + 1, 12, none⟩ = some (.int .i64 r.cond) := (Whole.under HI.out HR.out (Whole.lt HR.out)).cell 12
    go_wp2_with fail
    exact hK _ _ (Below.refl _ _) HI.out rfl
  · intro L a wx Q' hL hi H F hK
    try dsimp only at hi
    obtain ⟨_, h12, rfl⟩ := H 7 ⟨.data, by simp, rfl⟩ _ rfl
    replace h12 := h12 _ rfl
    obtain ⟨_, h14, rfl⟩ := H 9 ⟨.data, by simp, rfl⟩ _ rfl
    replace h14 := h14 _ rfl
    obtain ⟨_, h10, rfl⟩ := H 5 ⟨.guard, by simp, rfl⟩ _ rfl
    replace h10 := h10 _ rfl
    have HI := Lib.hid hi
    clear H F hi hL
    have hd := H2.out
    go_wp2_with fail
    exact hK _ _ (Below.refl _ _) HI.out rfl
  · intro L a wx Q' hL hi H F hK
    try dsimp only at hi
    obtain ⟨_, h10, rfl⟩ := H 5 ⟨.data, by simp, rfl⟩ _ rfl
    replace h10 := h10 _ rfl
    obtain ⟨_, h15, rfl⟩ := H 10 ⟨.data, by simp, rfl⟩ _ rfl
    replace h15 := h15 _ rfl
    have HI := Lib.hid hi
    clear H F hi hL
    go_wp2_with fail
    exact hK _ _ (Below.refl _ _) HI.out rfl
  · intro L a wx Q' hL hi H F hK
    try dsimp only at hi
    obtain ⟨_, h16, rfl⟩ := H 11 ⟨.data, by simp, rfl⟩ _ rfl
    replace h16 := h16 _ rfl
    have HI := Lib.hid hi
    clear H F hi hL
    go_wp2_with fail
    exact hK _ _ (Below.refl _ _) HI.out rfl
  · intro L a wx Q' hL hi H F hK
    try dsimp only at hi
    obtain ⟨_, h17, rfl⟩ := H 12 ⟨.guard, by simp, rfl⟩ _ rfl
    replace h17 := h17 _ rfl
    have h2 : a.tmps[2]? = some (.pointer (some ⟨w.heap.size, 0, none⟩)) := F 2 rfl
    have HI := Lib.hid hi
    clear H F hi hL
    have kq0 : wx.cell? ⟨w.heap.size, 0, none⟩ = some (.int .i64 x.src) := (Whole.under HI.out HX.out (Whole.lt HX.out)).cell 0
    have kq1 : wx.cell? ⟨w.heap.size, 1, none⟩ = some (.int .i64 x.tgt) := (Whole.under HI.out HX.out (Whole.lt HX.out)).cell 1
    have kq2 : wx.cell? ⟨w.heap.size, 2, none⟩ = some (.int .i64 x.cls) := (Whole.under HI.out HX.out (Whole.lt HX.out)).cell 2
    have kq3 : wx.cell? ⟨w.heap.size, 3, none⟩ = some (.int .i64 x.cond) := (Whole.under HI.out HX.out (Whole.lt HX.out)).cell 3
    have kq4 : wx.cell? ⟨w.heap.size, 4, none⟩ = some (.int .u32 x.allow) := (Whole.under HI.out HX.out (Whole.lt HX.out)).cell 4
    have kq5 : wx.cell? ⟨w.heap.size, 5, none⟩ = some (.int .u32 x.audit) := (Whole.under HI.out HX.out (Whole.lt HX.out)).cell 5
    have kq6 : wx.cell? ⟨w.heap.size, 6, none⟩ = some (.int .u32 x.dont) := (Whole.under HI.out HX.out (Whole.lt HX.out)).cell 6
    go_wp2_with fail
    exact hK _ _ (Below.refl _ _) HI.out rfl
  · intro L a wx Q' hL hi H F hK
    try dsimp only at hi
    obtain ⟨_, h17, rfl⟩ := H 12 ⟨.guard, by simp, rfl⟩ _ rfl
    replace h17 := h17 _ rfl
    have h3 : a.tmps[3]? = some (.pointer (some ⟨w.heap.size + 1, 0, none⟩)) := F 3 rfl
    have HI := Lib.hid hi
    clear H F hi hL
    go_wp2_with fail
    exact hK _ _ (Below.refl _ _) HI.out rfl
  · intro L a wx Q' hL hi H F hK
    try dsimp only at hi
    obtain ⟨_, h19, rfl⟩ := H 14 ⟨.data, by simp, rfl⟩ _ rfl
    replace h19 := h19 _ rfl
    obtain ⟨_, h17, rfl⟩ := H 12 ⟨.guard, by simp, rfl⟩ _ rfl
    replace h17 := h17 _ rfl
    have HI := Lib.hid hi
    clear H F hi hL
    have kq0 : wx.cell? ⟨w.heap.size + 1, 0, none⟩ = some (.int .i64 r.kind) := (Whole.under HI.out HR.out (Whole.lt HR.out)).cell 0
    go_wp2_with fail
    exact hK _ _ (Below.refl _ _) HI.out rfl
  · intro L a wx Q' hL hi H F hK
    try dsimp only at hi
    obtain ⟨_, h18, rfl⟩ := H 13 ⟨.data, by simp, rfl⟩ _ rfl
    replace h18 := h18 _ rfl
    obtain ⟨_, h20, rfl⟩ := H 15 ⟨.data, by simp, rfl⟩ _ rfl
    replace h20 := h20 _ rfl
    obtain ⟨_, h17, rfl⟩ := H 12 ⟨.guard, by simp, rfl⟩ _ rfl
    replace h17 := h17 _ rfl
    have HI := Lib.hid hi
    clear H F hi hL
    go_wp2_with (go_at_call 41; go_must (refine (vector_any wx x r.kind).mono ?_; rintro e w1 ⟨rfl, hb1⟩))
    exact hK _ _ hb1 (HI.out.trans (hb1.mono HI.out.size)) rfl
  · intro L a wx Q' hL hi H F hK
    try dsimp only at hi
    obtain ⟨_, h17, rfl⟩ := H 12 ⟨.guard, by simp, rfl⟩ _ rfl
    replace h17 := h17 _ rfl
    have h3 : a.tmps[3]? = some (.pointer (some ⟨w.heap.size + 1, 0, none⟩)) := F 3 rfl
    have HI := Lib.hid hi
    clear H F hi hL
    go_wp2_with fail
    exact hK _ _ (Below.refl _ _) HI.out rfl
  · intro L a wx Q' hL hi H F hK
    try dsimp only at hi
    obtain ⟨_, h22, rfl⟩ := H 17 ⟨.data, by simp, rfl⟩ _ rfl
    replace h22 := h22 _ rfl
    obtain ⟨_, h17, rfl⟩ := H 12 ⟨.guard, by simp, rfl⟩ _ rfl
    replace h17 := h17 _ rfl
    have HI := Lib.hid hi
    clear H F hi hL
    have kq0 : wx.cell? ⟨w.heap.size + 1, 11, none⟩ = some (.int .u32 r.perms) := (Whole.under HI.out HR.out (Whole.lt HR.out)).cell 11
    go_wp2_with fail
    exact hK _ _ (Below.refl _ _) HI.out rfl
  · intro L a wx Q' hL hi H F hK
    try dsimp only at hi
    obtain ⟨_, h21, rfl⟩ := H 16 ⟨.data, by simp, rfl⟩ _ rfl
    replace h21 := h21 _ rfl
    obtain ⟨_, h23, rfl⟩ := H 18 ⟨.data, by simp, rfl⟩ _ rfl
    replace h23 := h23 _ rfl
    obtain ⟨_, h17, rfl⟩ := H 12 ⟨.guard, by simp, rfl⟩ _ rfl
    replace h17 := h17 _ rfl
    have HI := Lib.hid hi
    clear H F hi hL
    go_wp2_with fail
    exact hK _ _ (Below.refl _ _) HI.out (by show Value.bool _ = Value.bool _; congr 1)
  · intro L a wx Q' hL hi H F hK
    try dsimp only at hi
    obtain ⟨_, h17, rfl⟩ := H 12 ⟨.data, by simp, rfl⟩ _ rfl
    replace h17 := h17 _ rfl
    obtain ⟨_, h24, rfl⟩ := H 19 ⟨.data, by simp, rfl⟩ _ rfl
    replace h24 := h24 _ rfl
    have HI := Lib.hid hi
    clear H F hi hL
    go_wp2_with fail
    exact hK _ _ (Below.refl _ _) HI.out rfl
  · intro a wx hl L hi hL Q' hK
    try dsimp only at hi
    have HB := Lib.hid hi
    clear hi hL
    obtain ⟨_, rfl, _, rfl, _, rfl, _, rfl, _, rfl, _, rfl, _, rfl, _, rfl, _, rfl, _, rfl, _, rfl, _, rfl, _, rfl, _, rfl, _, rfl, _, rfl, _, rfl, _, rfl, _, rfl, _, rfl, _, rfl, rfl⟩ := hl
    simp only [List.setIfInBounds_toArray, List.set_cons_zero, List.set_cons_succ]
    go_wp2_with fail
    go_ret
    exact ⟨rfl, HB0.out.trans (HB.out.mono HB0.out.size)⟩

set_option maxRecDepth 100000 in
set_option maxHeartbeats 4000000 in
theorem fits_off1 (w : World) (x : AEntry) (r : ARule) (h1 : ((x.cls : Int) == r.cls) = false) : Calls Tryd.prog 43 #[.agg #[.int .i64 x.src, .int .i64 x.tgt, .int .i64 x.cls, .int .i64 x.cond, .int .u32 x.allow, .int .u32 x.audit, .int .u32 x.dont], .agg #[.int .i64 r.kind, .int .u64 r.src.a, .int .u64 r.src.b, .int .u64 r.src.c, .int .u64 r.src.d, .int .u64 r.tgt.a, .int .u64 r.tgt.b, .int .u64 r.tgt.c, .int .u64 r.tgt.d, .bool r.self, .int .i64 r.cls, .int .u32 r.perms, .int .i64 r.cond]] w fun e w' => e = .returned (.bool false) ∧ Below w.heap.size w w' := by
  obtain ⟨wo, hwo⟩ : ∃ wo, wo = (w.alloc (.cells #[.int .i64 x.src, .int .i64 x.tgt, .int .i64 x.cls, .int .i64 x.cond, .int .u32 x.allow, .int .u32 x.audit, .int .u32 x.dont] 61)).alloc (.cells #[.int .i64 r.kind, .int .u64 r.src.a, .int .u64 r.src.b, .int .u64 r.src.c, .int .u64 r.src.d, .int .u64 r.tgt.a, .int .u64 r.tgt.b, .int .u64 r.tgt.c, .int .u64 r.tgt.d, .bool r.self, .int .i64 r.cls, .int .u32 r.perms, .int .i64 r.cond] 27) := ⟨_, rfl⟩
  have HX := Lib.hid (show Whole wo w.heap.size 61 #[.int .i64 x.src, .int .i64 x.tgt, .int .i64 x.cls, .int .i64 x.cond, .int .u32 x.allow, .int .u32 x.audit, .int .u32 x.dont] by rw [hwo]; exact (Whole.new w 61 #[.int .i64 x.src, .int .i64 x.tgt, .int .i64 x.cls, .int .i64 x.cond, .int .u32 x.allow, .int .u32 x.audit, .int .u32 x.dont]).alloc _)
  have HR := Lib.hid (show Whole wo (w.heap.size + 1) 27 #[.int .i64 r.kind, .int .u64 r.src.a, .int .u64 r.src.b, .int .u64 r.src.c, .int .u64 r.src.d, .int .u64 r.tgt.a, .int .u64 r.tgt.b, .int .u64 r.tgt.c, .int .u64 r.tgt.d, .bool r.self, .int .i64 r.cls, .int .u32 r.perms, .int .i64 r.cond] by rw [hwo]; exact whole_two w _ #[.int .i64 r.kind, .int .u64 r.src.a, .int .u64 r.src.b, .int .u64 r.src.c, .int .u64 r.src.d, .int .u64 r.tgt.a, .int .u64 r.tgt.b, .int .u64 r.tgt.c, .int .u64 r.tgt.d, .bool r.self, .int .i64 r.cls, .int .u32 r.perms, .int .i64 r.cond] _)
  have HB0 := Lib.hid (show Below w.heap.size w wo by rw [hwo]; exact ((Below.refl _ w).alloc (Nat.le_refl _) _).alloc (by simp) _)
  have k2 : wo.cell? ⟨w.heap.size, 2, none⟩ = some (.int .i64 x.cls) := HX.out.cell 2
  have k10 : wo.cell? ⟨w.heap.size + 1, 10, none⟩ = some (.int .i64 r.cls) := HR.out.cell 10
  go_enter Tryd.func43, Tryd.ntmps43
  go_upto_region 1 with (fail)
  rw [← hwo]
  clear hwo
  go_wp2
  go_quiet (fail)
  go_wp2
  go_ret
  exact ⟨rfl, below_drewN HB0.out _⟩
set_option maxRecDepth 100000 in
set_option maxHeartbeats 4000000 in
theorem fits_off2 (w : World) (x : AEntry) (r : ARule) (h1 : ((x.cls : Int) == r.cls) = true) (h2 : ((x.cond : Int) == r.cond) = false) : Calls Tryd.prog 43 #[.agg #[.int .i64 x.src, .int .i64 x.tgt, .int .i64 x.cls, .int .i64 x.cond, .int .u32 x.allow, .int .u32 x.audit, .int .u32 x.dont], .agg #[.int .i64 r.kind, .int .u64 r.src.a, .int .u64 r.src.b, .int .u64 r.src.c, .int .u64 r.src.d, .int .u64 r.tgt.a, .int .u64 r.tgt.b, .int .u64 r.tgt.c, .int .u64 r.tgt.d, .bool r.self, .int .i64 r.cls, .int .u32 r.perms, .int .i64 r.cond]] w fun e w' => e = .returned (.bool false) ∧ Below w.heap.size w w' := by
  obtain ⟨wo, hwo⟩ : ∃ wo, wo = (w.alloc (.cells #[.int .i64 x.src, .int .i64 x.tgt, .int .i64 x.cls, .int .i64 x.cond, .int .u32 x.allow, .int .u32 x.audit, .int .u32 x.dont] 61)).alloc (.cells #[.int .i64 r.kind, .int .u64 r.src.a, .int .u64 r.src.b, .int .u64 r.src.c, .int .u64 r.src.d, .int .u64 r.tgt.a, .int .u64 r.tgt.b, .int .u64 r.tgt.c, .int .u64 r.tgt.d, .bool r.self, .int .i64 r.cls, .int .u32 r.perms, .int .i64 r.cond] 27) := ⟨_, rfl⟩
  have HX := Lib.hid (show Whole wo w.heap.size 61 #[.int .i64 x.src, .int .i64 x.tgt, .int .i64 x.cls, .int .i64 x.cond, .int .u32 x.allow, .int .u32 x.audit, .int .u32 x.dont] by rw [hwo]; exact (Whole.new w 61 #[.int .i64 x.src, .int .i64 x.tgt, .int .i64 x.cls, .int .i64 x.cond, .int .u32 x.allow, .int .u32 x.audit, .int .u32 x.dont]).alloc _)
  have HR := Lib.hid (show Whole wo (w.heap.size + 1) 27 #[.int .i64 r.kind, .int .u64 r.src.a, .int .u64 r.src.b, .int .u64 r.src.c, .int .u64 r.src.d, .int .u64 r.tgt.a, .int .u64 r.tgt.b, .int .u64 r.tgt.c, .int .u64 r.tgt.d, .bool r.self, .int .i64 r.cls, .int .u32 r.perms, .int .i64 r.cond] by rw [hwo]; exact whole_two w _ #[.int .i64 r.kind, .int .u64 r.src.a, .int .u64 r.src.b, .int .u64 r.src.c, .int .u64 r.src.d, .int .u64 r.tgt.a, .int .u64 r.tgt.b, .int .u64 r.tgt.c, .int .u64 r.tgt.d, .bool r.self, .int .i64 r.cls, .int .u32 r.perms, .int .i64 r.cond] _)
  have HB0 := Lib.hid (show Below w.heap.size w wo by rw [hwo]; exact ((Below.refl _ w).alloc (Nat.le_refl _) _).alloc (by simp) _)
  have k2 : wo.cell? ⟨w.heap.size, 2, none⟩ = some (.int .i64 x.cls) := HX.out.cell 2
  have k10 : wo.cell? ⟨w.heap.size + 1, 10, none⟩ = some (.int .i64 r.cls) := HR.out.cell 10
  have k3 : wo.cell? ⟨w.heap.size, 3, none⟩ = some (.int .i64 x.cond) := HX.out.cell 3
  have k12 : wo.cell? ⟨w.heap.size + 1, 12, none⟩ = some (.int .i64 r.cond) := HR.out.cell 12
  go_enter Tryd.func43, Tryd.ntmps43
  go_upto_region 1 with (fail)
  rw [← hwo]
  clear hwo
  go_wp2
  go_quiet (fail)
  go_wp2
  go_ret
  exact ⟨rfl, below_drewN HB0.out _⟩
def AEntry.fits (x : AEntry) (r : ARule) : Bool := decide (x.cls = r.cls) && decide (x.cond = r.cond) && decide (x.vec r.kind = r.perms)
theorem fits_any (w : World) (x : AEntry) (r : ARule) : Calls Tryd.prog 43 #[.agg #[.int .i64 x.src, .int .i64 x.tgt, .int .i64 x.cls, .int .i64 x.cond, .int .u32 x.allow, .int .u32 x.audit, .int .u32 x.dont], .agg #[.int .i64 r.kind, .int .u64 r.src.a, .int .u64 r.src.b, .int .u64 r.src.c, .int .u64 r.src.d, .int .u64 r.tgt.a, .int .u64 r.tgt.b, .int .u64 r.tgt.c, .int .u64 r.tgt.d, .bool r.self, .int .i64 r.cls, .int .u32 r.perms, .int .i64 r.cond]] w fun e w' => e = .returned (.bool (x.fits r)) ∧ Below w.heap.size w w' := by
  unfold AEntry.fits
  by_cases h1 : x.cls = r.cls
  · by_cases h2 : x.cond = r.cond
    · have h := fits_on w x r (by simpa using h1) (by simpa using h2)
      simpa [h1, h2] using h
    · have h := fits_off2 w x r (by simpa using h1) (by simpa using h2)
      simpa [h1, h2] using h
  · have h := fits_off1 w x r (by simpa using h1)
    simpa [h1] using h
end Go.Proofs.YtmkfabdkadocdaaDoor
