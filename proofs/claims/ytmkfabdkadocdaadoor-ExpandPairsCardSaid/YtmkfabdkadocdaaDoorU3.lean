import Derived.Test.YtmkfabdkadocdaaDoorT11
/-
  ExpandPairs.
-/
namespace Go.Proofs.YtmkfabdkadocdaaDoor
open Go Go.WideMaps Go.RowKit Go.Sort

set_option maxRecDepth 100000 in
set_option maxHeartbeats 4000000 in
theorem expandPairs_any (w : World) (r : ARule) (hr : r.Ok) (hT : Tab w) : Calls Tryd.prog 3 #[.agg #[.int .i64 r.kind, .int .u64 r.src.a, .int .u64 r.src.b, .int .u64 r.src.c, .int .u64 r.src.d, .int .u64 r.tgt.a, .int .u64 r.tgt.b, .int .u64 r.tgt.c, .int .u64 r.tgt.d, .bool r.self, .int .i64 r.cls, .int .u32 r.perms, .int .i64 r.cond]] w fun e w' => e = .returned (.bool true) ∧ RowKit.Below w.heap.size w w' := by
  have HR := Lib.hid hr
  have HT := Lib.hid hT
  clear hr hT
  obtain ⟨wo, hwo⟩ : ∃ wo, wo = w.alloc (.cells #[.int .i64 r.kind, .int .u64 r.src.a, .int .u64 r.src.b, .int .u64 r.src.c, .int .u64 r.src.d, .int .u64 r.tgt.a, .int .u64 r.tgt.b, .int .u64 r.tgt.c, .int .u64 r.tgt.d, .bool r.self, .int .i64 r.cls, .int .u32 r.perms, .int .i64 r.cond] 27) := ⟨_, rfl⟩
  have HW0 := Lib.hid (show Whole wo w.heap.size 27 #[.int .i64 r.kind, .int .u64 r.src.a, .int .u64 r.src.b, .int .u64 r.src.c, .int .u64 r.src.d, .int .u64 r.tgt.a, .int .u64 r.tgt.b, .int .u64 r.tgt.c, .int .u64 r.tgt.d, .bool r.self, .int .i64 r.cls, .int .u32 r.perms, .int .i64 r.cond] by rw [hwo]; exact Whole.new w 27 _)
  have HBO := Lib.hid (show RowKit.Below w.heap.size w wo by rw [hwo]; exact (Below.refl _ w).alloc (Nat.le_refl _) _)
  go_enter Tryd.func3, Tryd.ntmps3
  go_upto_region 1 with fail
  rw [← hwo]
  clear hwo
  refine wp_region_plan [3, 4, 5, 6, 7, 8, 9, 10, 2] [isV (.agg #[.int .i64 r.kind, .int .u64 r.src.a, .int .u64 r.src.b, .int .u64 r.src.c, .int .u64 r.src.d, .int .u64 r.tgt.a, .int .u64 r.tgt.b, .int .u64 r.tgt.c, .int .u64 r.tgt.d, .bool r.self, .int .i64 r.cls, .int .u32 r.perms, .int .i64 r.cond]), (fun v w' => SliceAt w' v 2 r.pairs.length (r.pairs.flatMap pcell)), isV (.agg #[.int .i64 r.kind, .int .u64 r.src.a, .int .u64 r.src.b, .int .u64 r.src.c, .int .u64 r.src.d, .int .u64 r.tgt.a, .int .u64 r.tgt.b, .int .u64 r.tgt.c, .int .u64 r.tgt.d, .bool r.self, .int .i64 r.cls, .int .u32 r.perms, .int .i64 r.cond]), (fun v w' => SliceAt w' v 2 r.pairs.length (r.pairs.flatMap pcell)), isV (.bool true), isV (.bool true), isV (.bool true), isV (.bool true), isV (.bool true)] (RowKit.Below wo.heap.size wo) (by kernel_rfl) (by kernel_rfl) rfl (by decide) rfl ((Below.refl _ _).drew) (fun w w' h hb => h.trans (hb.mono h.size)) ⟨lasts_is _, (fun u wa wb h hb => h.keep hb), lasts_is _, (fun u wa wb h hb => h.keep hb), lasts_is _, lasts_is _, lasts_is _, lasts_is _, lasts_is _, trivial⟩ ⟨?_, ?_, ?_, ?_, ?_, ?_, ?_, ?_, ?_, trivial⟩ ?_
  · intro a wx Q' hi H F hK
    have h1 : a.tmps[1]? = some (.pointer (some ⟨w.heap.size, 0, none⟩)) := F 1 rfl
    have HI := Lib.hid hi
    clear H F hi
    have kq0 : wx.cell? ⟨w.heap.size, 0, none⟩ = some (.int .i64 r.kind) := (Whole.under HI.out HW0.out (Whole.lt HW0.out)).cell 0
    have kq1 : wx.cell? ⟨w.heap.size, 1, none⟩ = some (.int .u64 r.src.a) := (Whole.under HI.out HW0.out (Whole.lt HW0.out)).cell 1
    have kq2 : wx.cell? ⟨w.heap.size, 2, none⟩ = some (.int .u64 r.src.b) := (Whole.under HI.out HW0.out (Whole.lt HW0.out)).cell 2
    have kq3 : wx.cell? ⟨w.heap.size, 3, none⟩ = some (.int .u64 r.src.c) := (Whole.under HI.out HW0.out (Whole.lt HW0.out)).cell 3
    have kq4 : wx.cell? ⟨w.heap.size, 4, none⟩ = some (.int .u64 r.src.d) := (Whole.under HI.out HW0.out (Whole.lt HW0.out)).cell 4
    have kq5 : wx.cell? ⟨w.heap.size, 5, none⟩ = some (.int .u64 r.tgt.a) := (Whole.under HI.out HW0.out (Whole.lt HW0.out)).cell 5
    have kq6 : wx.cell? ⟨w.heap.size, 6, none⟩ = some (.int .u64 r.tgt.b) := (Whole.under HI.out HW0.out (Whole.lt HW0.out)).cell 6
    have kq7 : wx.cell? ⟨w.heap.size, 7, none⟩ = some (.int .u64 r.tgt.c) := (Whole.under HI.out HW0.out (Whole.lt HW0.out)).cell 7
    have kq8 : wx.cell? ⟨w.heap.size, 8, none⟩ = some (.int .u64 r.tgt.d) := (Whole.under HI.out HW0.out (Whole.lt HW0.out)).cell 8
    have kq9 : wx.cell? ⟨w.heap.size, 9, none⟩ = some (.bool r.self) := (Whole.under HI.out HW0.out (Whole.lt HW0.out)).cell 9
    have kq10 : wx.cell? ⟨w.heap.size, 10, none⟩ = some (.int .i64 r.cls) := (Whole.under HI.out HW0.out (Whole.lt HW0.out)).cell 10
    have kq11 : wx.cell? ⟨w.heap.size, 11, none⟩ = some (.int .u32 r.perms) := (Whole.under HI.out HW0.out (Whole.lt HW0.out)).cell 11
    have kq12 : wx.cell? ⟨w.heap.size, 12, none⟩ = some (.int .i64 r.cond) := (Whole.under HI.out HW0.out (Whole.lt HW0.out)).cell 12
    go_wp2_with fail
    exact hK _ _ (Below.refl _ _) rfl
  · intro a wx Q' hi H F hK
    obtain ⟨_, h3, rfl⟩ := H 0 ⟨.data, by simp, rfl⟩ 3 _ rfl rfl
    have HI := Lib.hid hi
    clear H F hi
    go_wp2_with (go_at_call 11; go_must (refine (rule_any wx r HR.out).mono ?_; rintro e w1 ⟨v1, rfl, ho1, hb1⟩))
    exact hK _ _ hb1 (ex_slice rfl ho1)
  · intro a wx Q' hi H F hK
    have h1 : a.tmps[1]? = some (.pointer (some ⟨w.heap.size, 0, none⟩)) := F 1 rfl
    have HI := Lib.hid hi
    clear H F hi
    have kq0 : wx.cell? ⟨w.heap.size, 0, none⟩ = some (.int .i64 r.kind) := (Whole.under HI.out HW0.out (Whole.lt HW0.out)).cell 0
    have kq1 : wx.cell? ⟨w.heap.size, 1, none⟩ = some (.int .u64 r.src.a) := (Whole.under HI.out HW0.out (Whole.lt HW0.out)).cell 1
    have kq2 : wx.cell? ⟨w.heap.size, 2, none⟩ = some (.int .u64 r.src.b) := (Whole.under HI.out HW0.out (Whole.lt HW0.out)).cell 2
    have kq3 : wx.cell? ⟨w.heap.size, 3, none⟩ = some (.int .u64 r.src.c) := (Whole.under HI.out HW0.out (Whole.lt HW0.out)).cell 3
    have kq4 : wx.cell? ⟨w.heap.size, 4, none⟩ = some (.int .u64 r.src.d) := (Whole.under HI.out HW0.out (Whole.lt HW0.out)).cell 4
    have kq5 : wx.cell? ⟨w.heap.size, 5, none⟩ = some (.int .u64 r.tgt.a) := (Whole.under HI.out HW0.out (Whole.lt HW0.out)).cell 5
    have kq6 : wx.cell? ⟨w.heap.size, 6, none⟩ = some (.int .u64 r.tgt.b) := (Whole.under HI.out HW0.out (Whole.lt HW0.out)).cell 6
    have kq7 : wx.cell? ⟨w.heap.size, 7, none⟩ = some (.int .u64 r.tgt.c) := (Whole.under HI.out HW0.out (Whole.lt HW0.out)).cell 7
    have kq8 : wx.cell? ⟨w.heap.size, 8, none⟩ = some (.int .u64 r.tgt.d) := (Whole.under HI.out HW0.out (Whole.lt HW0.out)).cell 8
    have kq9 : wx.cell? ⟨w.heap.size, 9, none⟩ = some (.bool r.self) := (Whole.under HI.out HW0.out (Whole.lt HW0.out)).cell 9
    have kq10 : wx.cell? ⟨w.heap.size, 10, none⟩ = some (.int .i64 r.cls) := (Whole.under HI.out HW0.out (Whole.lt HW0.out)).cell 10
    have kq11 : wx.cell? ⟨w.heap.size, 11, none⟩ = some (.int .u32 r.perms) := (Whole.under HI.out HW0.out (Whole.lt HW0.out)).cell 11
    have kq12 : wx.cell? ⟨w.heap.size, 12, none⟩ = some (.int .i64 r.cond) := (Whole.under HI.out HW0.out (Whole.lt HW0.out)).cell 12
    go_wp2_with fail
    exact hK _ _ (Below.refl _ _) rfl
  · intro a wx Q' hi H F hK
    obtain ⟨_, h5, rfl⟩ := H 2 ⟨.data, by simp, rfl⟩ 5 _ rfl rfl
    have HI := Lib.hid hi
    clear H F hi
    go_wp2_with (go_at_call 12; go_must (refine (refRule_any wx r HR.out).mono ?_; rintro e w1 ⟨v1, rfl, ho1, hb1⟩))
    exact hK _ _ hb1 (ex_slice rfl ho1)
  · intro a wx Q' hi H F hK
    obtain ⟨v4, h4, hv4⟩ := H 1 ⟨.data, by simp, rfl⟩ 4 _ rfl rfl
    have HV4 := Lib.hid hv4
    clear hv4
    obtain ⟨v6, h6, hv6⟩ := H 3 ⟨.data, by simp, rfl⟩ 6 _ rfl rfl
    have HV6 := Lib.hid hv6
    clear hv6
    have HI := Lib.hid hi
    clear H F hi
    go_wp2_with (go_at_call 10; go_must (refine (pairs_any wx _ _ r.pairs HV4.out HV6.out).mono ?_; rintro e w1 ⟨rfl, hb1⟩))
    exact hK _ _ hb1 rfl
  · intro a wx Q' hi H F hK
    obtain ⟨_, h7, rfl⟩ := H 4 ⟨.data, by simp, rfl⟩ 7 _ rfl rfl
    have HI := Lib.hid hi
    clear H F hi
    go_wp2_with fail
    exact hK _ _ (Below.refl _ _) rfl
  · intro a wx Q' hi H F hK
    obtain ⟨_, h8, rfl⟩ := H 5 ⟨.guard, by simp, rfl⟩ 8 _ rfl rfl
    have HI := Lib.hid hi
    clear H F hi
    go_wp2_with (go_at_call 13; go_must (refine (awake_any wx (HT.out.later (HBO.out.trans (HI.out.mono HBO.out.size)))).mono ?_; rintro e w1 ⟨rfl, hb1⟩))
    exact hK _ _ hb1 rfl
  · intro a wx Q' hi H F hK
    obtain ⟨_, h8, rfl⟩ := H 5 ⟨.data, by simp, rfl⟩ 8 _ rfl rfl
    obtain ⟨_, h9, rfl⟩ := H 6 ⟨.data, by simp, rfl⟩ 9 _ rfl rfl
    have HI := Lib.hid hi
    clear H F hi
    go_wp2_with fail
    exact hK _ _ (Below.refl _ _) rfl
  · intro a wx Q' hi H F hK
    obtain ⟨_, h10, rfl⟩ := H 7 ⟨.data, by simp, rfl⟩ 10 _ rfl rfl
    have HI := Lib.hid hi
    clear H F hi
    go_wp2_with fail
    exact hK _ _ (Below.refl _ _) rfl
  · rintro ⟨tmps, defers⟩ wx hR
    obtain ⟨_, h0, rfl⟩ := hR.done 8 rfl 2 _ rfl rfl
    obtain rfl := hR.defers
    have HV0 := Lib.hid hR.inv
    clear hR
    go_wp2_with fail
    refine bodyPost_ret (v := .bool true) ?_ rfl ⟨rfl, HBO.out.trans (HV0.out.mono HBO.out.size)⟩
    simp [results, Tryd.results3, h0]
end Go.Proofs.YtmkfabdkadocdaaDoor
