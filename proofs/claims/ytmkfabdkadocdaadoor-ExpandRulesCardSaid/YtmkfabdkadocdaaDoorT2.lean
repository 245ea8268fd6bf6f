import Derived.Test.YtmkfabdkadocdaaDoorT1
/-
  The order of rules: expand.ordered.
-/
namespace Go.Proofs.YtmkfabdkadocdaaDoor
open Go Go.RowKit

def orderedI (x y : ARule) : Int := orI [cmpI x.kind y.kind, cmpI x.cls y.cls, cmpI x.cond y.cond, cmpI x.perms y.perms, cmpI x.src.least y.src.least]
set_option maxRecDepth 100000 in
set_option maxHeartbeats 8000000 in
theorem ordered_any (w : World) (x y : ARule) (hx : x.src.Ok) (hy : y.src.Ok) (hT : Tab w) : Calls Tryd.prog 39 #[.agg #[.int .i64 x.kind, .int .u64 x.src.a, .int .u64 x.src.b, .int .u64 x.src.c, .int .u64 x.src.d, .int .u64 x.tgt.a, .int .u64 x.tgt.b, .int .u64 x.tgt.c, .int .u64 x.tgt.d, .bool x.self, .int .i64 x.cls, .int .u32 x.perms, .int .i64 x.cond], .agg #[.int .i64 y.kind, .int .u64 y.src.a, .int .u64 y.src.b, .int .u64 y.src.c, .int .u64 y.src.d, .int .u64 y.tgt.a, .int .u64 y.tgt.b, .int .u64 y.tgt.c, .int .u64 y.tgt.d, .bool y.self, .int .i64 y.cls, .int .u32 y.perms, .int .i64 y.cond]] w fun e w' => e = .returned (.int .i64 (orderedI x y)) ∧ Grows w w' := by
  unfold orderedI
  have HOK := Lib.hid (And.intro hx hy)
  obtain ⟨wo, hwo⟩ : ∃ wo, wo = (w.alloc (.cells #[.int .i64 x.kind, .int .u64 x.src.a, .int .u64 x.src.b, .int .u64 x.src.c, .int .u64 x.src.d, .int .u64 x.tgt.a, .int .u64 x.tgt.b, .int .u64 x.tgt.c, .int .u64 x.tgt.d, .bool x.self, .int .i64 x.cls, .int .u32 x.perms, .int .i64 x.cond] 27)).alloc (.cells #[.int .i64 y.kind, .int .u64 y.src.a, .int .u64 y.src.b, .int .u64 y.src.c, .int .u64 y.src.d, .int .u64 y.tgt.a, .int .u64 y.tgt.b, .int .u64 y.tgt.c, .int .u64 y.tgt.d, .bool y.self, .int .i64 y.cls, .int .u32 y.perms, .int .i64 y.cond] 27) := ⟨_, rfl⟩
  have HX := Lib.hid (show Whole wo w.heap.size 27 #[.int .i64 x.kind, .int .u64 x.src.a, .int .u64 x.src.b, .int .u64 x.src.c, .int .u64 x.src.d, .int .u64 x.tgt.a, .int .u64 x.tgt.b, .int .u64 x.tgt.c, .int .u64 x.tgt.d, .bool x.self, .int .i64 x.cls, .int .u32 x.perms, .int .i64 x.cond] by rw [hwo]; exact (Whole.new w 27 #[.int .i64 x.kind, .int .u64 x.src.a, .int .u64 x.src.b, .int .u64 x.src.c, .int .u64 x.src.d, .int .u64 x.tgt.a, .int .u64 x.tgt.b, .int .u64 x.tgt.c, .int .u64 x.tgt.d, .bool x.self, .int .i64 x.cls, .int .u32 x.perms, .int .i64 x.cond]).alloc _)
  have HY := Lib.hid (show Whole wo (w.heap.size + 1) 27 #[.int .i64 y.kind, .int .u64 y.src.a, .int .u64 y.src.b, .int .u64 y.src.c, .int .u64 y.src.d, .int .u64 y.tgt.a, .int .u64 y.tgt.b, .int .u64 y.tgt.c, .int .u64 y.tgt.d, .bool y.self, .int .i64 y.cls, .int .u32 y.perms, .int .i64 y.cond] by rw [hwo]; exact whole_two w _ #[.int .i64 y.kind, .int .u64 y.src.a, .int .u64 y.src.b, .int .u64 y.src.c, .int .u64 y.src.d, .int .u64 y.tgt.a, .int .u64 y.tgt.b, .int .u64 y.tgt.c, .int .u64 y.tgt.d, .bool y.self, .int .i64 y.cls, .int .u32 y.perms, .int .i64 y.cond] _)
  have HG := Lib.hid (show Grows w wo by rw [hwo]; exact ((Grows.refl w).alloc _).alloc _)
  have HT := Lib.hid (hT.later HG.out.below)
  clear hx hy hT
  go_enter Tryd.func39, Tryd.ntmps39
  go_upto_region 1 with (fail)
  rw [← hwo]
  clear hwo
  refine wp_region_last (fun w w' => Below w.heap.size w w') [some 5, some 6, some 7, some 8, some 9, some 10, some 11, some 12, some 13, some 14, some 15, some 16, some 17, some 18, some 19, some 20, some 21, some 22, some 23, some 24, some 25, some 26, some 27, some 28, some 29, some 30, some 31, some 32, some 33] [isV (.pointer (some ⟨w.heap.size, 0, none⟩)), isV (.int .i64 x.kind), isV (.pointer (some ⟨w.heap.size + 1, 0, none⟩)), isV (.int .i64 y.kind), isV (.int .i64 (cmpI x.kind y.kind)), isV (.pointer (some ⟨w.heap.size, 10, none⟩)), isV (.int .i64 x.cls), isV (.pointer (some ⟨w.heap.size + 1, 10, none⟩)), isV (.int .i64 y.cls), isV (.int .i64 (cmpI x.cls y.cls)), isV (.pointer (some ⟨w.heap.size, 12, none⟩)), isV (.int .i64 x.cond), isV (.pointer (some ⟨w.heap.size + 1, 12, none⟩)), isV (.int .i64 y.cond), isV (.int .i64 (cmpI x.cond y.cond)), isV (.pointer (some ⟨w.heap.size, 11, none⟩)), isV (.int .u32 x.perms), isV (.pointer (some ⟨w.heap.size + 1, 11, none⟩)), isV (.int .u32 y.perms), isV (.int .i64 (cmpI x.perms y.perms)), isV (.pointer (some ⟨w.heap.size, 1, none⟩)), isV (.agg #[.int .u64 x.src.a, .int .u64 x.src.b, .int .u64 x.src.c, .int .u64 x.src.d]), isV (.int .i64 x.src.least), isV (.pointer (some ⟨w.heap.size + 1, 1, none⟩)), isV (.agg #[.int .u64 y.src.a, .int .u64 y.src.b, .int .u64 y.src.c, .int .u64 y.src.d]), isV (.int .i64 y.src.least), isV (.int .i64 (cmpI x.src.least y.src.least)), fun u w' => ∃ g, u = .slice (some ⟨g, 0, none⟩) 5 5 ∧ Whole w' g 3 #[.int .i64 (cmpI x.kind y.kind), .int .i64 (cmpI x.cls y.cls), .int .i64 (cmpI x.cond y.cond), .int .i64 (cmpI x.perms y.perms), .int .i64 (cmpI x.src.least y.src.least)], isV (.int .i64 (orI [cmpI x.kind y.kind, cmpI x.cls y.cls, cmpI x.cond y.cond, cmpI x.perms y.perms, cmpI x.src.least y.src.least]))] (fun _ w' => Grows wo w') 29 (by kernel_rfl) (by kernel_rfl) (by kernel_rfl) rfl (by decide) rfl rfl ((Grows.refl _).drew) ⟨lasts_is _, lasts_is _, lasts_is _, lasts_is _, lasts_is _, lasts_is _, lasts_is _, lasts_is _, lasts_is _, lasts_is _, lasts_is _, lasts_is _, lasts_is _, lasts_is _, lasts_is _, lasts_is _, lasts_is _, lasts_is _, lasts_is _, lasts_is _, lasts_is _, lasts_is _, lasts_is _, lasts_is _, lasts_is _, lasts_is _, lasts_is _, (fun u wa wb ⟨g, h1, h2⟩ hb => ⟨g, h1, Whole.under hb h2 h2.lt⟩), lasts_is _, trivial⟩ ⟨(fun _ => lastsR_is _), (fun _ => lastsR_is _), (fun _ => lastsR_is _), (fun _ => lastsR_is _), (fun _ => lastsR_is _), (fun _ => lastsR_is _), (fun _ => lastsR_is _), (fun _ => lastsR_is _), (fun _ => lastsR_is _), (fun _ => lastsR_is _), (fun _ => lastsR_is _), (fun _ => lastsR_is _), (fun _ => lastsR_is _), (fun _ => lastsR_is _), (fun _ => lastsR_is _), (fun _ => lastsR_is _), (fun _ => lastsR_is _), (fun _ => lastsR_is _), (fun _ => lastsR_is _), (fun _ => lastsR_is _), (fun _ => lastsR_is _), (fun _ => lastsR_is _), (fun _ => lastsR_is _), (fun _ => lastsR_is _), (fun _ => lastsR_is _), (fun _ => lastsR_is _), (fun _ => lastsR_is _), (fun _ => (fun u wa wb ⟨g, h1, h2⟩ hb => ⟨g, h1, Whole.under hb h2 h2.lt⟩)), (fun _ => lastsR_is _), trivial⟩ ⟨?_, ?_, ?_, ?_, ?_, ?_, ?_, ?_, ?_, ?_, ?_, ?_, ?_, ?_, ?_, ?_, ?_, ?_, ?_, ?_, ?_, ?_, ?_, ?_, ?_, ?_, ?_, ?_, ?_, ?_⟩
  · intro L a wx Q' hL hi H F hK
    try dsimp only at hi
    have h2 : a.tmps[2]? = some (.pointer (some ⟨w.heap.size, 0, none⟩)) := F 2 rfl
    have HI := Lib.hid hi
    clear H F hi hL
    go_wp2_with fail
    exact hK _ _ (Below.refl _ _) HI.out rfl
  · intro L a wx Q' hL hi H F hK
    try dsimp only at hi
    obtain ⟨_, h5, rfl⟩ := H 0 ⟨.data, by simp, rfl⟩ _ rfl
    replace h5 := h5 _ rfl
    have HI := Lib.hid hi
    clear H F hi hL
    have kq0 : wx.cell? ⟨w.heap.size, 0, none⟩ = some (.int .i64 x.kind) := (Whole.under HI.out.below HX.out HX.out.lt).cell 0
    go_wp2_with fail
    exact hK _ _ (Below.refl _ _) HI.out rfl
  · intro L a wx Q' hL hi H F hK
    try dsimp only at hi
    have h3 : a.tmps[3]? = some (.pointer (some ⟨w.heap.size + 1, 0, none⟩)) := F 3 rfl
    have HI := Lib.hid hi
    clear H F hi hL
    go_wp2_with fail
    exact hK _ _ (Below.refl _ _) HI.out rfl
  · intro L a wx Q' hL hi H F hK
    try dsimp only at hi
    obtain ⟨_, h7, rfl⟩ := H 2 ⟨.data, by simp, rfl⟩ _ rfl
    replace h7 := h7 _ rfl
    have HI := Lib.hid hi
    clear H F hi hL
    have kq0 : wx.cell? ⟨w.heap.size + 1, 0, none⟩ = some (.int .i64 y.kind) := (Whole.under HI.out.below HY.out HY.out.lt).cell 0
    go_wp2_with fail
    exact hK _ _ (Below.refl _ _) HI.out rfl
  · intro L a wx Q' hL hi H F hK
    try dsimp only at hi
    obtain ⟨_, h6, rfl⟩ := H 1 ⟨.data, by simp, rfl⟩ _ rfl
    replace h6 := h6 _ rfl
    obtain ⟨_, h8, rfl⟩ := H 3 ⟨.data, by simp, rfl⟩ _ rfl
    replace h8 := h8 _ rfl
    have HI := Lib.hid hi
    clear H F hi hL
    go_wp2_with (go_at_call 56; go_must (refine (compare_any _ _ _).mono ?_; rintro e w1 ⟨rfl, rfl⟩))
    exact hK _ _ (Below.refl _ _) HI.out rfl
  · intro L a wx Q' hL hi H F hK
    try dsimp only at hi
    have h2 : a.tmps[2]? = some (.pointer (some ⟨w.heap.size, 0, none⟩)) := F 2 rfl
    have HI := Lib.hid hi
    clear H F hi hL
    go_wp2_with fail
    exact hK _ _ (Below.refl _ _) HI.out rfl
  · intro L a wx Q' hL hi H F hK
    try dsimp only at hi
    obtain ⟨_, h10, rfl⟩ := H 5 ⟨.data, by simp, rfl⟩ _ rfl
    replace h10 := h10 _ rfl
    have HI := Lib.hid hi
    clear H F hi hL
    have kq0 : wx.cell? ⟨w.heap.size, 10, none⟩ = some (.int .i64 x.cls) := (Whole.under HI.out.below HX.out HX.out.lt).cell 10
    go_wp2_with fail
    exact hK _ _ (Below.refl _ _) HI.out rfl
  · intro L a wx Q' hL hi H F hK
    try dsimp only at hi
    have h3 : a.tmps[3]? = some (.pointer (some ⟨w.heap.size + 1, 0, none⟩)) := F 3 rfl
    have HI := Lib.hid hi
    clear H F hi hL
    go_wp2_with fail
    exact hK _ _ (Below.refl _ _) HI.out rfl
  · intro L a wx Q' hL hi H F hK
    try dsimp only at hi
    obtain ⟨_, h12, rfl⟩ := H 7 ⟨.data, by simp, rfl⟩ _ rfl
    replace h12 := h12 _ rfl
    have HI := Lib.hid hi
    clear H F hi hL
    have kq0 : wx.cell? ⟨w.heap.size + 1, 10, none⟩ = some (.int .i64 y.cls) := (Whole.under HI.out.below HY.out HY.out.lt).cell 10
    go_wp2_with fail
    exact hK _ _ (Below.refl _ _) HI.out rfl
  · intro L a wx Q' hL hi H F hK
    try dsimp only at hi
    obtain ⟨_, h11, rfl⟩ := H 6 ⟨.data, by simp, rfl⟩ _ rfl
    replace h11 := h11 _ rfl
    obtain ⟨_, h13, rfl⟩ := H 8 ⟨.data, by simp, rfl⟩ _ rfl
    replace h13 := h13 _ rfl
    have HI := Lib.hid hi
    clear H F hi hL
    go_wp2_with (go_at_call 56; go_must (refine (compare_any _ _ _).mono ?_; rintro e w1 ⟨rfl, rfl⟩))
    exact hK _ _ (Below.refl _ _) HI.out rfl
  · intro L a wx Q' hL hi H F hK
    try dsimp only at hi
    have h2 : a.tmps[2]? = some (.pointer (some ⟨w.heap.size, 0, none⟩)) := F 2 rfl
    have HI := Lib.hid hi
    clear H F hi hL
    go_wp2_with fail
    exact hK _ _ (Below.refl _ _) HI.out rfl
  · intro L a wx Q' hL hi H F hK
    try dsimp only at hi
    obtain ⟨_, h15, rfl⟩ := H 10 ⟨.data, by simp, rfl⟩ _ rfl
    replace h15 := h15 _ rfl
    have HI := Lib.hid hi
    clear H F hi hL
    have kq0 : wx.cell? ⟨w.heap.size, 12, none⟩ = some (.int .i64 x.cond) := (Whole.under HI.out.below HX.out HX.out.lt).cell 12
    go_wp2_with fail
    exact hK _ _ (Below.refl _ _) HI.out rfl
  · intro L a wx Q' hL hi H F hK
    try dsimp only at hi
    have h3 : a.tmps[3]? = some (.pointer (some ⟨w.heap.size + 1, 0, none⟩)) := F 3 rfl
    have HI := Lib.hid hi
    clear H F hi hL
    go_wp2_with fail
    exact hK _ _ (Below.refl _ _) HI.out rfl
  · intro L a wx Q' hL hi H F hK
    try dsimp only at hi
    obtain ⟨_, h17, rfl⟩ := H 12 ⟨.data, by simp, rfl⟩ _ rfl
    replace h17 := h17 _ rfl
    have HI := Lib.hid hi
    clear H F hi hL
    have kq0 : wx.cell? ⟨w.heap.size + 1, 12, none⟩ = some (.int .i64 y.cond) := (Whole.under HI.out.below HY.out HY.out.lt).cell 12
    go_wp2_with fail
    exact hK _ _ (Below.refl _ _) HI.out rfl
  · intro L a wx Q' hL hi H F hK
    try dsimp only at hi
    obtain ⟨_, h16, rfl⟩ := H 11 ⟨.data, by simp, rfl⟩ _ rfl
    replace h16 := h16 _ rfl
    obtain ⟨_, h18, rfl⟩ := H 13 ⟨.data, by simp, rfl⟩ _ rfl
    replace h18 := h18 _ rfl
    have HI := Lib.hid hi
    clear H F hi hL
    go_wp2_with (go_at_call 56; go_must (refine (compare_any _ _ _).mono ?_; rintro e w1 ⟨rfl, rfl⟩))
    exact hK _ _ (Below.refl _ _) HI.out rfl
  · intro L a wx Q' hL hi H F hK
    try dsimp only at hi
    have h2 : a.tmps[2]? = some (.pointer (some ⟨w.heap.size, 0, none⟩)) := F 2 rfl
    have HI := Lib.hid hi
    clear H F hi hL
    go_wp2_with fail
    exact hK _ _ (Below.refl _ _) HI.out rfl
  · intro L a wx Q' hL hi H F hK
    try dsimp only at hi
    obtain ⟨_, h20, rfl⟩ := H 15 ⟨.data, by simp, rfl⟩ _ rfl
    replace h20 := h20 _ rfl
    have HI := Lib.hid hi
    clear H F hi hL
    have kq0 : wx.cell? ⟨w.heap.size, 11, none⟩ = some (.int .u32 x.perms) := (Whole.under HI.out.below HX.out HX.out.lt).cell 11
    go_wp2_with fail
    exact hK _ _ (Below.refl _ _) HI.out rfl
  · intro L a wx Q' hL hi H F hK
    try dsimp only at hi
    have h3 : a.tmps[3]? = some (.pointer (some ⟨w.heap.size + 1, 0, none⟩)) := F 3 rfl
    have HI := Lib.hid hi
    clear H F hi hL
    go_wp2_with fail
    exact hK _ _ (Below.refl _ _) HI.out rfl
  · intro L a wx Q' hL hi H F hK
    try dsimp only at hi
    obtain ⟨_, h22, rfl⟩ := H 17 ⟨.data, by simp, rfl⟩ _ rfl
    replace h22 := h22 _ rfl
    have HI := Lib.hid hi
    clear H F hi hL
    have kq0 : wx.cell? ⟨w.heap.size + 1, 11, none⟩ = some (.int .u32 y.perms) := (Whole.under HI.out.below HY.out HY.out.lt).cell 11
    go_wp2_with fail
    exact hK _ _ (Below.refl _ _) HI.out rfl
  · intro L a wx Q' hL hi H F hK
    try dsimp only at hi
    obtain ⟨_, h21, rfl⟩ := H 16 ⟨.data, by simp, rfl⟩ _ rfl
    replace h21 := h21 _ rfl
    obtain ⟨_, h23, rfl⟩ := H 18 ⟨.data, by simp, rfl⟩ _ rfl
    replace h23 := h23 _ rfl
    have HI := Lib.hid hi
    clear H F hi hL
    go_wp2_with (go_at_call 57; go_must (refine (compareU_any _ _ _).mono ?_; rintro e w1 ⟨rfl, rfl⟩))
    exact hK _ _ (Below.refl _ _) HI.out rfl
  · intro L a wx Q' hL hi H F hK
    try dsimp only at hi
    have h2 : a.tmps[2]? = some (.pointer (some ⟨w.heap.size, 0, none⟩)) := F 2 rfl
    have HI := Lib.hid hi
    clear H F hi hL
    go_wp2_with fail
    exact hK _ _ (Below.refl _ _) HI.out rfl
  · intro L a wx Q' hL hi H F hK
    try dsimp only at hi
    obtain ⟨_, h25, rfl⟩ := H 20 ⟨.data, by simp, rfl⟩ _ rfl
    replace h25 := h25 _ rfl
    have HI := Lib.hid hi
    clear H F hi hL
    have kq0 : wx.cell? ⟨w.heap.size, 1, none⟩ = some (.int .u64 x.src.a) := (Whole.under HI.out.below HX.out HX.out.lt).cell 1
    have kq1 : wx.cell? ⟨w.heap.size, 2, none⟩ = some (.int .u64 x.src.b) := (Whole.under HI.out.below HX.out HX.out.lt).cell 2
    have kq2 : wx.cell? ⟨w.heap.size, 3, none⟩ = some (.int .u64 x.src.c) := (Whole.under HI.out.below HX.out HX.out.lt).cell 3
    have kq3 : wx.cell? ⟨w.heap.size, 4, none⟩ = some (.int .u64 x.src.d) := (Whole.under HI.out.below HX.out HX.out.lt).cell 4
    go_wp2_with fail
    exact hK _ _ (Below.refl _ _) HI.out rfl
  · intro L a wx Q' hL hi H F hK
    try dsimp only at hi
    obtain ⟨_, h26, rfl⟩ := H 21 ⟨.data, by simp, rfl⟩ _ rfl
    replace h26 := h26 _ rfl
    have HI := Lib.hid hi
    clear H F hi hL
    go_wp2_with (go_at_call 58; go_must (refine (least_any wx x.src HOK.out.1 (HT.out.later HI.out.below)).mono ?_; rintro e w1 ⟨rfl, hg1⟩))
    exact hK _ _ hg1.below (HI.out.trans hg1) rfl
  · intro L a wx Q' hL hi H F hK
    try dsimp only at hi
    have h3 : a.tmps[3]? = some (.pointer (some ⟨w.heap.size + 1, 0, none⟩)) := F 3 rfl
    have HI := Lib.hid hi
    clear H F hi hL
    go_wp2_with fail
    exact hK _ _ (Below.refl _ _) HI.out rfl
  · intro L a wx Q' hL hi H F hK
    try dsimp only at hi
    obtain ⟨_, h28, rfl⟩ := H 23 ⟨.data, by simp, rfl⟩ _ rfl
    replace h28 := h28 _ rfl
    have HI := Lib.hid hi
    clear H F hi hL
    have kq0 : wx.cell? ⟨w.heap.size + 1, 1, none⟩ = some (.int .u64 y.src.a) := (Whole.under HI.out.below HY.out HY.out.lt).cell 1
    have kq1 : wx.cell? ⟨w.heap.size + 1, 2, none⟩ = some (.int .u64 y.src.b) := (Whole.under HI.out.below HY.out HY.out.lt).cell 2
    have kq2 : wx.cell? ⟨w.heap.size + 1, 3, none⟩ = some (.int .u64 y.src.c) := (Whole.under HI.out.below HY.out HY.out.lt).cell 3
    have kq3 : wx.cell? ⟨w.heap.size + 1, 4, none⟩ = some (.int .u64 y.src.d) := (Whole.under HI.out.below HY.out HY.out.lt).cell 4
    go_wp2_with fail
    exact hK _ _ (Below.refl _ _) HI.out rfl
  · intro L a wx Q' hL hi H F hK
    try dsimp only at hi
    obtain ⟨_, h29, rfl⟩ := H 24 ⟨.data, by simp, rfl⟩ _ rfl
    replace h29 := h29 _ rfl
    have HI := Lib.hid hi
    clear H F hi hL
    go_wp2_with (go_at_call 58; go_must (refine (least_any wx y.src HOK.out.2 (HT.out.later HI.out.below)).mono ?_; rintro e w1 ⟨rfl, hg1⟩))
    exact hK _ _ hg1.below (HI.out.trans hg1) rfl
  · intro L a wx Q' hL hi H F hK
    try dsimp only at hi
    obtain ⟨_, h27, rfl⟩ := H 22 ⟨.data, by simp, rfl⟩ _ rfl
    replace h27 := h27 _ rfl
    obtain ⟨_, h30, rfl⟩ := H 25 ⟨.data, by simp, rfl⟩ _ rfl
    replace h30 := h30 _ rfl
    have HI := Lib.hid hi
    clear H F hi hL
    go_wp2_with (go_at_call 56; go_must (refine (compare_any _ _ _).mono ?_; rintro e w1 ⟨rfl, rfl⟩))
    exact hK _ _ (Below.refl _ _) HI.out rfl
  · intro L a wx Q' hL hi H F hK
    try dsimp only at hi
    obtain ⟨_, h9, rfl⟩ := H 4 ⟨.data, by simp, rfl⟩ _ rfl
    replace h9 := h9 _ rfl
    obtain ⟨_, h14, rfl⟩ := H 9 ⟨.data, by simp, rfl⟩ _ rfl
    replace h14 := h14 _ rfl
    obtain ⟨_, h19, rfl⟩ := H 14 ⟨.data, by simp, rfl⟩ _ rfl
    replace h19 := h19 _ rfl
    obtain ⟨_, h24, rfl⟩ := H 19 ⟨.data, by simp, rfl⟩ _ rfl
    replace h24 := h24 _ rfl
    obtain ⟨_, h31, rfl⟩ := H 26 ⟨.data, by simp, rfl⟩ _ rfl
    replace h31 := h31 _ rfl
    have HI := Lib.hid hi
    clear H F hi hL
    go_wp2_with fail
    have hb := (Below.refl wx.heap.size wx).alloc (Nat.le_refl _) (.cells #[.int .i64 (cmpI x.kind y.kind), .int .i64 (cmpI x.cls y.cls), .int .i64 (cmpI x.cond y.cond), .int .i64 (cmpI x.perms y.perms), .int .i64 (cmpI x.src.least y.src.least)] 3)
    exact hK _ _ hb (HI.out.alloc _) ⟨wx.heap.size, rfl, Whole.new wx 3 _⟩
  · intro L a wx Q' hL hi H F hK
    try dsimp only at hi
    obtain ⟨v32, h32, hv32⟩ := H 27 ⟨.data, by simp, rfl⟩ _ rfl
    replace h32 := h32 _ rfl
    have HV32 := Lib.hid hv32
    clear hv32
    have HI := Lib.hid hi
    clear H F hi hL
    obtain ⟨g, rfl, hw⟩ := HV32.out
    have HS := Lib.hid (row_ints (l := [cmpI x.kind y.kind, cmpI x.cls y.cls, cmpI x.cond y.cond, cmpI x.perms y.perms, cmpI x.src.least y.src.least]) (by simp) hw)
    clear HV32 hw
    go_wp2_with (go_at_call 55; go_must (refine (or_any _ _ [cmpI x.kind y.kind, cmpI x.cls y.cls, cmpI x.cond y.cond, cmpI x.perms y.perms, cmpI x.src.least y.src.least] HS.out).mono ?_; rintro e w1 ⟨rfl, rfl⟩))
    exact hK _ _ (Below.refl _ _) HI.out rfl
  · intro a wx hl L hi hL Q' hK
    try dsimp only at hi
    have HB := Lib.hid hi
    clear hi hL
    obtain ⟨_, rfl, _, rfl, _, rfl, _, rfl, _, rfl, _, rfl, _, rfl, _, rfl, _, rfl, _, rfl, _, rfl, _, rfl, _, rfl, _, rfl, _, rfl, _, rfl, _, rfl, _, rfl, _, rfl, _, rfl, _, rfl, _, rfl, _, rfl, _, rfl, _, rfl, _, rfl, _, rfl, u32, hu32, _, rfl, rfl⟩ := hl
    have HU32 := Lib.hid hu32
    clear hu32
    simp only [List.setIfInBounds_toArray, List.set_cons_zero, List.set_cons_succ]
    go_wp2_with fail
    go_ret
    exact ⟨rfl, HG.out.trans HB.out⟩

end Go.Proofs.YtmkfabdkadocdaaDoor
