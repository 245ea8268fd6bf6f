import Derived.Test.YtcdhjcjdphnleaaYB
namespace Go.Proofs.Ytcdhjcjdphnleaa
open Go Go.WideMaps Go.RowKit

theorem bt {a b c : World} (h : Below a.heap.size a b) (k : Below b.heap.size b c) : Below a.heap.size a c := h.trans (k.mono h.size)
theorem eq46 (W : World) : (Op.equalIn 10000 46 (.agg #[.int .u32 0, .int .u32 0, .int .u32 0, .bool false, .int .i64 0]) (.agg #[.int .u32 0, .int .u32 0, .int .u32 0, .bool false, .int .i64 0])).run Try.prog W = .ok true W := by kernel_rfl

set_option maxRecDepth 100000 in
set_option maxHeartbeats 4000000 in
theorem nil_none (w : World) (o : Opn) : Calls Try.prog 9 #[.agg #[.int .u8 o.kind, .int .i64 o.src, .int .i64 o.tgt, .int .i64 o.cls, .int .u32 o.allowed, .int .i64 o.seq], .bool true] w fun e w' => e = .returned (.bool true) ∧ Below w.heap.size w w' := by
  have HN0 := Lib.hid (show NotMade ((w.alloc (.cells #[.int .u8 o.kind, .int .i64 o.src, .int .i64 o.tgt, .int .i64 o.cls, .int .u32 o.allowed, .int .i64 o.seq] 35)).alloc (.cells #[.int .i64 0, .int .i64 0, .map none, .slice none 0 0, .int .i64 0, .int .i64 0, .int .i64 0, .int .i64 0] 62)) none from .inl rfl)
  go_enter Try.func9, Try.ntmps9
  go_wp2_with fail
  refine (find_no _ none o.src o.tgt o.cls HN0.out).mono ?_
  rintro e w1 ⟨rfl, hb⟩
  have HB1 := Lib.hid (show Below w.heap.size w w1 from bt ((((Below.refl _ w).alloc (Nat.le_refl _) _).alloc (by simp) _)) hb)
  have HN1 := Lib.hid (HN0.out.under hb)
  have HO1 := Lib.hid (Whole.under hb ((Whole.new w 35 #[.int .u8 o.kind, .int .i64 o.src, .int .i64 o.tgt, .int .i64 o.cls, .int .u32 o.allowed, .int .i64 o.seq]).alloc _) ((Whole.new w 35 #[.int .u8 o.kind, .int .i64 o.src, .int .i64 o.tgt, .int .i64 o.cls, .int .u32 o.allowed, .int .i64 o.seq]).alloc _).lt)
  clear hb
  go_wp2_with (refine wpList_store_blk rfl 46 _ _ rfl w1.heap.size 0 (.agg #[.int .u32 0, .int .u32 0, .int .u32 0, .bool false, .int .i64 0]) rfl rfl 46 _ (Whole.new w1 46 _) (by simp [Value.cells]) size46 rfl ?_; intro w2 S2 W2; have HS2 := Lib.hid S2; have HD2 := Lib.hid (show Whole w2 w1.heap.size 46 #[.int .u32 0, .int .u32 0, .int .u32 0, .bool false, .int .i64 0] from W2); clear S2 W2)
  have HX2 := Lib.hid (show Below w1.heap.size w1 w2 from ((Below.refl _ w1).alloc (Nat.le_refl _) _).trans (HS2.out.below (Nat.le_refl _)))
  have HB2 := Lib.hid (bt HB1.out HX2.out)
  have HN2 := Lib.hid (HN1.out.under HX2.out)
  have HO2 := Lib.hid (Whole.under HX2.out HO1.out HO1.out.lt)
  clear HX2 HB1 HN1 HO1 HS2
  refine wp_region_last (fun w w' => Below w.heap.size w w') [some 28, some 29, some 30, some 31, some 32, some 33, some 34, some 35, some 36, some 37] [isV (.pointer none), isV (.pointer (some ⟨w.heap.size, 1, none⟩)), isV (.int .i64 o.src), isV (.pointer (some ⟨w.heap.size, 2, none⟩)), isV (.int .i64 o.tgt), isV (.pointer (some ⟨w.heap.size, 3, none⟩)), isV (.int .i64 o.cls), isV (.agg #[.int .u8 o.kind, .int .i64 o.src, .int .i64 o.tgt, .int .i64 o.cls, .int .u32 o.allowed, .int .i64 o.seq]), isV (.agg #[.int .u32 o.allowed, .int .u32 0, .int .u32 0, .bool false, .int .i64 o.seq]), isV (.int .i64 1)] (fun _ w' => Below w2.heap.size w2 w') 10 (by kernel_rfl) (by kernel_rfl) (by kernel_rfl) rfl (by decide) rfl rfl ((Below.refl _ _).drew) ⟨lasts_is _, lasts_is _, lasts_is _, lasts_is _, lasts_is _, lasts_is _, lasts_is _, lasts_is _, lasts_is _, lasts_is _, trivial⟩ ⟨(fun _ => lastsR_is _), (fun _ => lastsR_is _), (fun _ => lastsR_is _), (fun _ => lastsR_is _), (fun _ => lastsR_is _), (fun _ => lastsR_is _), (fun _ => lastsR_is _), (fun _ => lastsR_is _), (fun _ => lastsR_is _), (fun _ => lastsR_is _), trivial⟩ ⟨?_, ?_, ?_, ?_, ?_, ?_, ?_, ?_, ?_, ?_, ?_⟩
  · intro L a wx Q' hL hi H F hK
    try dsimp only at hi
    have h5 : a.tmps[5]? = some (.pointer none) := F 5 rfl
    have HI := Lib.hid hi
    clear H F hi hL
    go_wp2_with fail
    exact hK _ _ (Below.refl _ _) HI.out rfl
  · intro L a wx Q' hL hi H F hK
    try dsimp only at hi
    have h2 : a.tmps[2]? = some (.pointer (some ⟨w.heap.size, 0, none⟩)) := F 2 rfl
    have HI := Lib.hid hi
    clear H F hi hL
    go_wp2_with fail
    exact hK _ _ (Below.refl _ _) HI.out rfl
  · intro L a wx Q' hL hi H F hK
    try dsimp only at hi
    obtain ⟨_, h29, rfl⟩ := H 1 ⟨.data, by simp, rfl⟩ _ rfl
    replace h29 := h29 _ rfl
    have HI := Lib.hid hi
    clear H F hi hL
    have kq0 : wx.cell? ⟨w.heap.size, 1, none⟩ = some (.int .i64 o.src) := (Whole.under HI.out HO2.out (Whole.lt HO2.out)).cell 1
    go_wp2_with fail
    exact hK _ _ (Below.refl _ _) HI.out rfl
  · intro L a wx Q' hL hi H F hK
    try dsimp only at hi
    have h2 : a.tmps[2]? = some (.pointer (some ⟨w.heap.size, 0, none⟩)) := F 2 rfl
    have HI := Lib.hid hi
    clear H F hi hL
    go_wp2_with fail
    exact hK _ _ (Below.refl _ _) HI.out rfl
  · intro L a wx Q' hL hi H F hK
    try dsimp only at hi
    obtain ⟨_, h31, rfl⟩ := H 3 ⟨.data, by simp, rfl⟩ _ rfl
    replace h31 := h31 _ rfl
    have HI := Lib.hid hi
    clear H F hi hL
    have kq0 : wx.cell? ⟨w.heap.size, 2, none⟩ = some (.int .i64 o.tgt) := (Whole.under HI.out HO2.out (Whole.lt HO2.out)).cell 2
    go_wp2_with fail
    exact hK _ _ (Below.refl _ _) HI.out rfl
  · intro L a wx Q' hL hi H F hK
    try dsimp only at hi
    have h2 : a.tmps[2]? = some (.pointer (some ⟨w.heap.size, 0, none⟩)) := F 2 rfl
    have HI := Lib.hid hi
    clear H F hi hL
    go_wp2_with fail
    exact hK _ _ (Below.refl _ _) HI.out rfl
  · intro L a wx Q' hL hi H F hK
    try dsimp only at hi
    obtain ⟨_, h33, rfl⟩ := H 5 ⟨.data, by simp, rfl⟩ _ rfl
    replace h33 := h33 _ rfl
    have HI := Lib.hid hi
    clear H F hi hL
    have kq0 : wx.cell? ⟨w.heap.size, 3, none⟩ = some (.int .i64 o.cls) := (Whole.under HI.out HO2.out (Whole.lt HO2.out)).cell 3
    go_wp2_with fail
    exact hK _ _ (Below.refl _ _) HI.out rfl
  · intro L a wx Q' hL hi H F hK
    try dsimp only at hi
    have h2 : a.tmps[2]? = some (.pointer (some ⟨w.heap.size, 0, none⟩)) := F 2 rfl
    have HI := Lib.hid hi
    clear H F hi hL
    have kq0 : wx.cell? ⟨w.heap.size, 0, none⟩ = some (.int .u8 o.kind) := (Whole.under HI.out HO2.out (Whole.lt HO2.out)).cell 0
    have kq1 : wx.cell? ⟨w.heap.size, 1, none⟩ = some (.int .i64 o.src) := (Whole.under HI.out HO2.out (Whole.lt HO2.out)).cell 1
    have kq2 : wx.cell? ⟨w.heap.size, 2, none⟩ = some (.int .i64 o.tgt) := (Whole.under HI.out HO2.out (Whole.lt HO2.out)).cell 2
    have kq3 : wx.cell? ⟨w.heap.size, 3, none⟩ = some (.int .i64 o.cls) := (Whole.under HI.out HO2.out (Whole.lt HO2.out)).cell 3
    have kq4 : wx.cell? ⟨w.heap.size, 4, none⟩ = some (.int .u32 o.allowed) := (Whole.under HI.out HO2.out (Whole.lt HO2.out)).cell 4
    have kq5 : wx.cell? ⟨w.heap.size, 5, none⟩ = some (.int .i64 o.seq) := (Whole.under HI.out HO2.out (Whole.lt HO2.out)).cell 5
    go_wp2_with fail
    exact hK _ _ (Below.refl _ _) HI.out rfl
  · intro L a wx Q' hL hi H F hK
    try dsimp only at hi
    obtain ⟨_, h35, rfl⟩ := H 7 ⟨.data, by simp, rfl⟩ _ rfl
    replace h35 := h35 _ rfl
    have HI := Lib.hid hi
    clear H F hi hL
    go_wp2_with (go_at_call 23; go_must (refine (decision_any o _).mono ?_; rintro e w1 ⟨rfl, hb1⟩))
    exact hK _ _ hb1 (HI.out.trans (hb1.mono HI.out.size)) rfl
  · intro L a wx Q' hL hi H F hK
    try dsimp only at hi
    obtain ⟨_, h28, rfl⟩ := H 0 ⟨.data, by simp, rfl⟩ _ rfl
    replace h28 := h28 _ rfl
    obtain ⟨_, h30, rfl⟩ := H 2 ⟨.data, by simp, rfl⟩ _ rfl
    replace h30 := h30 _ rfl
    obtain ⟨_, h32, rfl⟩ := H 4 ⟨.data, by simp, rfl⟩ _ rfl
    replace h32 := h32 _ rfl
    obtain ⟨_, h34, rfl⟩ := H 6 ⟨.data, by simp, rfl⟩ _ rfl
    replace h34 := h34 _ rfl
    obtain ⟨_, h36, rfl⟩ := H 8 ⟨.data, by simp, rfl⟩ _ rfl
    replace h36 := h36 _ rfl
    have HI := Lib.hid hi
    clear H F hi hL
    go_wp2_with (go_at_call 22; go_must (refine (insert_no _ none o.src o.tgt o.cls o.dec (HN2.out.under HI.out)).mono ?_; rintro e w1 ⟨rfl, hb1⟩))
    exact hK _ _ hb1 (HI.out.trans (hb1.mono HI.out.size)) rfl
  · intro a wx hl L hi hL Q' hK
    try dsimp only at hi
    have HB := Lib.hid hi
    clear hi hL
    obtain ⟨_, rfl, _, rfl, _, rfl, _, rfl, _, rfl, _, rfl, _, rfl, _, rfl, _, rfl, _, rfl, rfl⟩ := hl
    simp only [List.setIfInBounds_toArray, List.set_cons_zero, List.set_cons_succ]
    skip
    have HNX := Lib.hid (HN2.out.under HB.out)
    have HBX := Lib.hid (bt HB2.out HB.out)
    have HOX := Lib.hid (Whole.under HB.out HO2.out HO2.out.lt)
    have HDX := Lib.hid (Whole.under HB.out HD2.out HD2.out.lt)
    have k5 : wx.cell? ⟨w.heap.size, 5, none⟩ = some (.int .i64 o.seq) := HOX.out.cell 5
    have e0 : wx.cell? ⟨w1.heap.size, 0, none⟩ = some (.int .u32 0) := HDX.out.cell 0
    have e1 : wx.cell? ⟨w1.heap.size, 1, none⟩ = some (.int .u32 0) := HDX.out.cell 1
    have e2 : wx.cell? ⟨w1.heap.size, 2, none⟩ = some (.int .u32 0) := HDX.out.cell 2
    have e3 : wx.cell? ⟨w1.heap.size, 3, none⟩ = some (.bool false) := HDX.out.cell 3
    have e4 : wx.cell? ⟨w1.heap.size, 4, none⟩ = some (.int .i64 0) := HDX.out.cell 4
    have q := eq46
    clear HB
    go_wp2_with (first | (go_at_call 26; go_must (refine (reset_no _ none o.seq HNX.out).mono ?_; rintro e w' ⟨rfl, rfl⟩)) | (go_at_call 18; go_must (refine (stats_no _ none HNX.out).mono ?_; rintro e w' ⟨rfl, rfl⟩)) | (go_at_call 20; go_must (refine (seq_no _ none HNX.out).mono ?_; rintro e w' ⟨rfl, rfl⟩)) | (go_at_call 17; go_must (refine (len_no _ none HNX.out).mono ?_; rintro e w' ⟨rfl, rfl⟩)) | (go_at_call 16; go_must (refine (keys_no _ none HNX.out).mono ?_; rintro e w' ⟨rfl, rfl⟩)) | (go_at_call 19; go_must (refine (copy_no _ none HNX.out).mono ?_; rintro e w' ⟨rfl, rfl⟩)) | (go_at_call 10; go_must (refine (awake_any _).mono ?_; rintro e w9 ⟨rfl, hb⟩; have HB9 := Lib.hid hb; clear hb)))
    go_ret
    exact ⟨rfl, bt HBX.out HB9.out⟩

set_option maxRecDepth 100000 in
set_option maxHeartbeats 4000000 in
theorem nil_zero (w : World) (o : Opn) : Calls Try.prog 9 #[.agg #[.int .u8 o.kind, .int .i64 o.src, .int .i64 o.tgt, .int .i64 o.cls, .int .u32 o.allowed, .int .i64 o.seq], .bool false] w fun e w' => e = .returned (.bool true) ∧ Below w.heap.size w w' := by
  have HN0 := Lib.hid (show NotMade ((w.alloc (.cells #[.int .u8 o.kind, .int .i64 o.src, .int .i64 o.tgt, .int .i64 o.cls, .int .u32 o.allowed, .int .i64 o.seq] 35)).alloc (.cells #[.int .i64 0, .int .i64 0, .map none, .slice none 0 0, .int .i64 0, .int .i64 0, .int .i64 0, .int .i64 0] 62)) (some ⟨w.heap.size + 1, 0, none⟩) from .inr ⟨w.heap.size + 1, _, _, _, _, _, _, _, rfl, whole_two w _ _ _⟩)
  go_enter Try.func9, Try.ntmps9
  go_wp2_with fail
  refine (find_no _ (some ⟨w.heap.size + 1, 0, none⟩) o.src o.tgt o.cls HN0.out).mono ?_
  rintro e w1 ⟨rfl, hb⟩
  have HB1 := Lib.hid (show Below w.heap.size w w1 from bt ((((Below.refl _ w).alloc (Nat.le_refl _) _).alloc (by simp) _)) hb)
  have HN1 := Lib.hid (HN0.out.under hb)
  have HO1 := Lib.hid (Whole.under hb ((Whole.new w 35 #[.int .u8 o.kind, .int .i64 o.src, .int .i64 o.tgt, .int .i64 o.cls, .int .u32 o.allowed, .int .i64 o.seq]).alloc _) ((Whole.new w 35 #[.int .u8 o.kind, .int .i64 o.src, .int .i64 o.tgt, .int .i64 o.cls, .int .u32 o.allowed, .int .i64 o.seq]).alloc _).lt)
  clear hb
  go_wp2_with (refine wpList_store_blk rfl 46 _ _ rfl w1.heap.size 0 (.agg #[.int .u32 0, .int .u32 0, .int .u32 0, .bool false, .int .i64 0]) rfl rfl 46 _ (Whole.new w1 46 _) (by simp [Value.cells]) size46 rfl ?_; intro w2 S2 W2; have HS2 := Lib.hid S2; have HD2 := Lib.hid (show Whole w2 w1.heap.size 46 #[.int .u32 0, .int .u32 0, .int .u32 0, .bool false, .int .i64 0] from W2); clear S2 W2)
  have HX2 := Lib.hid (show Below w1.heap.size w1 w2 from ((Below.refl _ w1).alloc (Nat.le_refl _) _).trans (HS2.out.below (Nat.le_refl _)))
  have HB2 := Lib.hid (bt HB1.out HX2.out)
  have HN2 := Lib.hid (HN1.out.under HX2.out)
  have HO2 := Lib.hid (Whole.under HX2.out HO1.out HO1.out.lt)
  clear HX2 HB1 HN1 HO1 HS2
  refine wp_region_last (fun w w' => Below w.heap.size w w') [some 28, some 29, some 30, some 31, some 32, some 33, some 34, some 35, some 36, some 37] [isV (.pointer (some ⟨w.heap.size + 1, 0, none⟩)), isV (.pointer (some ⟨w.heap.size, 1, none⟩)), isV (.int .i64 o.src), isV (.pointer (some ⟨w.heap.size, 2, none⟩)), isV (.int .i64 o.tgt), isV (.pointer (some ⟨w.heap.size, 3, none⟩)), isV (.int .i64 o.cls), isV (.agg #[.int .u8 o.kind, .int .i64 o.src, .int .i64 o.tgt, .int .i64 o.cls, .int .u32 o.allowed, .int .i64 o.seq]), isV (.agg #[.int .u32 o.allowed, .int .u32 0, .int .u32 0, .bool false, .int .i64 o.seq]), isV (.int .i64 1)] (fun _ w' => Below w2.heap.size w2 w') 10 (by kernel_rfl) (by kernel_rfl) (by kernel_rfl) rfl (by decide) rfl rfl ((Below.refl _ _).drew) ⟨lasts_is _, lasts_is _, lasts_is _, lasts_is _, lasts_is _, lasts_is _, lasts_is _, lasts_is _, lasts_is _, lasts_is _, trivial⟩ ⟨(fun _ => lastsR_is _), (fun _ => lastsR_is _), (fun _ => lastsR_is _), (fun _ => lastsR_is _), (fun _ => lastsR_is _), (fun _ => lastsR_is _), (fun _ => lastsR_is _), (fun _ => lastsR_is _), (fun _ => lastsR_is _), (fun _ => lastsR_is _), trivial⟩ ⟨?_, ?_, ?_, ?_, ?_, ?_, ?_, ?_, ?_, ?_, ?_⟩
  · intro L a wx Q' hL hi H F hK
    try dsimp only at hi
    have h5 : a.tmps[5]? = some (.pointer (some ⟨w.heap.size + 1, 0, none⟩)) := F 5 rfl
    have HI := Lib.hid hi
    clear H F hi hL
    go_wp2_with fail
    exact hK _ _ (Below.refl _ _) HI.out rfl
  · intro L a wx Q' hL hi H F hK
    try dsimp only at hi
    have h2 : a.tmps[2]? = some (.pointer (some ⟨w.heap.size, 0, none⟩)) := F 2 rfl
    have HI := Lib.hid hi
    clear H F hi hL
    go_wp2_with fail
    exact hK _ _ (Below.refl _ _) HI.out rfl
  · intro L a wx Q' hL hi H F hK
    try dsimp only at hi
    obtain ⟨_, h29, rfl⟩ := H 1 ⟨.data, by simp, rfl⟩ _ rfl
    replace h29 := h29 _ rfl
    have HI := Lib.hid hi
    clear H F hi hL
    have kq0 : wx.cell? ⟨w.heap.size, 1, none⟩ = some (.int .i64 o.src) := (Whole.under HI.out HO2.out (Whole.lt HO2.out)).cell 1
    go_wp2_with fail
    exact hK _ _ (Below.refl _ _) HI.out rfl
  · intro L a wx Q' hL hi H F hK
    try dsimp only at hi
    have h2 : a.tmps[2]? = some (.pointer (some ⟨w.heap.size, 0, none⟩)) := F 2 rfl
    have HI := Lib.hid hi
    clear H F hi hL
    go_wp2_with fail
    exact hK _ _ (Below.refl _ _) HI.out rfl
  · intro L a wx Q' hL hi H F hK
    try dsimp only at hi
    obtain ⟨_, h31, rfl⟩ := H 3 ⟨.data, by simp, rfl⟩ _ rfl
    replace h31 := h31 _ rfl
    have HI := Lib.hid hi
    clear H F hi hL
    have kq0 : wx.cell? ⟨w.heap.size, 2, none⟩ = some (.int .i64 o.tgt) := (Whole.under HI.out HO2.out (Whole.lt HO2.out)).cell 2
    go_wp2_with fail
    exact hK _ _ (Below.refl _ _) HI.out rfl
  · intro L a wx Q' hL hi H F hK
    try dsimp only at hi
    have h2 : a.tmps[2]? = some (.pointer (some ⟨w.heap.size, 0, none⟩)) := F 2 rfl
    have HI := Lib.hid hi
    clear H F hi hL
    go_wp2_with fail
    exact hK _ _ (Below.refl _ _) HI.out rfl
  · intro L a wx Q' hL hi H F hK
    try dsimp only at hi
    obtain ⟨_, h33, rfl⟩ := H 5 ⟨.data, by simp, rfl⟩ _ rfl
    replace h33 := h33 _ rfl
    have HI := Lib.hid hi
    clear H F hi hL
    have kq0 : wx.cell? ⟨w.heap.size, 3, none⟩ = some (.int .i64 o.cls) := (Whole.under HI.out HO2.out (Whole.lt HO2.out)).cell 3
    go_wp2_with fail
    exact hK _ _ (Below.refl _ _) HI.out rfl
  · intro L a wx Q' hL hi H F hK
    try dsimp only at hi
    have h2 : a.tmps[2]? = some (.pointer (some ⟨w.heap.size, 0, none⟩)) := F 2 rfl
    have HI := Lib.hid hi
    clear H F hi hL
    have kq0 : wx.cell? ⟨w.heap.size, 0, none⟩ = some (.int .u8 o.kind) := (Whole.under HI.out HO2.out (Whole.lt HO2.out)).cell 0
    have kq1 : wx.cell? ⟨w.heap.size, 1, none⟩ = some (.int .i64 o.src) := (Whole.under HI.out HO2.out (Whole.lt HO2.out)).cell 1
    have kq2 : wx.cell? ⟨w.heap.size, 2, none⟩ = some (.int .i64 o.tgt) := (Whole.under HI.out HO2.out (Whole.lt HO2.out)).cell 2
    have kq3 : wx.cell? ⟨w.heap.size, 3, none⟩ = some (.int .i64 o.cls) := (Whole.under HI.out HO2.out (Whole.lt HO2.out)).cell 3
    have kq4 : wx.cell? ⟨w.heap.size, 4, none⟩ = some (.int .u32 o.allowed) := (Whole.under HI.out HO2.out (Whole.lt HO2.out)).cell 4
    have kq5 : wx.cell? ⟨w.heap.size, 5, none⟩ = some (.int .i64 o.seq) := (Whole.under HI.out HO2.out (Whole.lt HO2.out)).cell 5
    go_wp2_with fail
    exact hK _ _ (Below.refl _ _) HI.out rfl
  · intro L a wx Q' hL hi H F hK
    try dsimp only at hi
    obtain ⟨_, h35, rfl⟩ := H 7 ⟨.data, by simp, rfl⟩ _ rfl
    replace h35 := h35 _ rfl
    have HI := Lib.hid hi
    clear H F hi hL
    go_wp2_with (go_at_call 23; go_must (refine (decision_any o _).mono ?_; rintro e w1 ⟨rfl, hb1⟩))
    exact hK _ _ hb1 (HI.out.trans (hb1.mono HI.out.size)) rfl
  · intro L a wx Q' hL hi H F hK
    try dsimp only at hi
    obtain ⟨_, h28, rfl⟩ := H 0 ⟨.data, by simp, rfl⟩ _ rfl
    replace h28 := h28 _ rfl
    obtain ⟨_, h30, rfl⟩ := H 2 ⟨.data, by simp, rfl⟩ _ rfl
    replace h30 := h30 _ rfl
    obtain ⟨_, h32, rfl⟩ := H 4 ⟨.data, by simp, rfl⟩ _ rfl
    replace h32 := h32 _ rfl
    obtain ⟨_, h34, rfl⟩ := H 6 ⟨.data, by simp, rfl⟩ _ rfl
    replace h34 := h34 _ rfl
    obtain ⟨_, h36, rfl⟩ := H 8 ⟨.data, by simp, rfl⟩ _ rfl
    replace h36 := h36 _ rfl
    have HI := Lib.hid hi
    clear H F hi hL
    go_wp2_with (go_at_call 22; go_must (refine (insert_no _ (some ⟨w.heap.size + 1, 0, none⟩) o.src o.tgt o.cls o.dec (HN2.out.under HI.out)).mono ?_; rintro e w1 ⟨rfl, hb1⟩))
    exact hK _ _ hb1 (HI.out.trans (hb1.mono HI.out.size)) rfl
  · intro a wx hl L hi hL Q' hK
    try dsimp only at hi
    have HB := Lib.hid hi
    clear hi hL
    obtain ⟨_, rfl, _, rfl, _, rfl, _, rfl, _, rfl, _, rfl, _, rfl, _, rfl, _, rfl, _, rfl, rfl⟩ := hl
    simp only [List.setIfInBounds_toArray, List.set_cons_zero, List.set_cons_succ]
    skip
    have HNX := Lib.hid (HN2.out.under HB.out)
    have HBX := Lib.hid (bt HB2.out HB.out)
    have HOX := Lib.hid (Whole.under HB.out HO2.out HO2.out.lt)
    have HDX := Lib.hid (Whole.under HB.out HD2.out HD2.out.lt)
    have k5 : wx.cell? ⟨w.heap.size, 5, none⟩ = some (.int .i64 o.seq) := HOX.out.cell 5
    have e0 : wx.cell? ⟨w1.heap.size, 0, none⟩ = some (.int .u32 0) := HDX.out.cell 0
    have e1 : wx.cell? ⟨w1.heap.size, 1, none⟩ = some (.int .u32 0) := HDX.out.cell 1
    have e2 : wx.cell? ⟨w1.heap.size, 2, none⟩ = some (.int .u32 0) := HDX.out.cell 2
    have e3 : wx.cell? ⟨w1.heap.size, 3, none⟩ = some (.bool false) := HDX.out.cell 3
    have e4 : wx.cell? ⟨w1.heap.size, 4, none⟩ = some (.int .i64 0) := HDX.out.cell 4
    have q := eq46
    clear HB
    go_wp2_with (first | (go_at_call 26; go_must (refine (reset_no _ (some ⟨w.heap.size + 1, 0, none⟩) o.seq HNX.out).mono ?_; rintro e w' ⟨rfl, rfl⟩)) | (go_at_call 18; go_must (refine (stats_no _ (some ⟨w.heap.size + 1, 0, none⟩) HNX.out).mono ?_; rintro e w' ⟨rfl, rfl⟩)) | (go_at_call 20; go_must (refine (seq_no _ (some ⟨w.heap.size + 1, 0, none⟩) HNX.out).mono ?_; rintro e w' ⟨rfl, rfl⟩)) | (go_at_call 17; go_must (refine (len_no _ (some ⟨w.heap.size + 1, 0, none⟩) HNX.out).mono ?_; rintro e w' ⟨rfl, rfl⟩)) | (go_at_call 16; go_must (refine (keys_no _ (some ⟨w.heap.size + 1, 0, none⟩) HNX.out).mono ?_; rintro e w' ⟨rfl, rfl⟩)) | (go_at_call 19; go_must (refine (copy_no _ (some ⟨w.heap.size + 1, 0, none⟩) HNX.out).mono ?_; rintro e w' ⟨rfl, rfl⟩)) | (go_at_call 10; go_must (refine (awake_any _).mono ?_; rintro e w9 ⟨rfl, hb⟩; have HB9 := Lib.hid hb; clear hb)))
    go_ret
    exact ⟨rfl, bt HBX.out HB9.out⟩

theorem cacheNil_any (w : World) (o : Opn) (b : Bool) : Calls Try.prog 9 #[.agg #[.int .u8 o.kind, .int .i64 o.src, .int .i64 o.tgt, .int .i64 o.cls, .int .u32 o.allowed, .int .i64 o.seq], .bool b] w fun e w' => e = .returned (.bool true) ∧ Below w.heap.size w w' := by
  cases b
  · exact nil_zero w o
  · exact nil_none w o
end Go.Proofs.Ytcdhjcjdphnleaa
