import Derived.Test.YtcdhjcjdphnleaaY4
namespace Go.Proofs.Ytcdhjcjdphnleaa
open Go Go.WideMaps Go.RowKit

/-! ### Operations -/
structure Opn where
  kind : Int
  src : Int
  tgt : Int
  cls : Int
  allowed : Int
  seq : Int
def Opn.cells (o : Opn) : List Value := [.int .u8 o.kind, .int .i64 o.src, .int .i64 o.tgt, .int .i64 o.cls, .int .u32 o.allowed, .int .i64 o.seq]
def Opn.key (o : Opn) : Key := ⟨o.src, o.tgt, o.cls⟩
def Opn.dec (o : Opn) : Dec := ⟨o.allowed, 0, 0, false, o.seq⟩
structure Opn.Wf (o : Opn) : Prop where
  kind : 0 ≤ o.kind ∧ o.kind ≤ 255
  key : o.key.ok
theorem opn_len (o : Opn) : o.cells.length = 6 := rfl
def OpsAt (w : World) (v : Value) (l : List Opn) : Prop := SliceAt w v 6 l.length (l.flatMap Opn.cells)
def St.play (s : St) (o : Opn) : St := if o.kind % 3 = 0 then s.find o.key else if o.kind % 3 = 1 then s.insert o.key o.dec else s.resets o.seq

theorem decision_any (o : Opn) (w : World) : Calls Try.prog 23 #[.agg #[.int .u8 o.kind, .int .i64 o.src, .int .i64 o.tgt, .int .i64 o.cls, .int .u32 o.allowed, .int .i64 o.seq]] w fun e w' => e = .returned (.agg #[.int .u32 o.allowed, .int .u32 0, .int .u32 0, .bool false, .int .i64 o.seq]) ∧ Below w.heap.size w w' := by
  go_enter Try.func23, Try.ntmps23
  go_wp2_with (refine wpList_store_blk rfl 46 _ _ rfl (w.heap.size + 1) 0 (.agg #[.int .u32 o.allowed, .int .u32 0, .int .u32 0, .bool false, .int .i64 o.seq]) rfl rfl 46 _ (whole_two w _ _ _) (by simp [Value.cells]) size46 rfl ?_; intro w5 S5 W5; have HS5 := Lib.hid S5; have HD5 := Lib.hid (show Whole w5 (w.heap.size + 1) 46 #[.int .u32 o.allowed, .int .u32 0, .int .u32 0, .bool false, .int .i64 o.seq] from W5); clear S5 W5)
  have e0 : w5.cell? ⟨w.heap.size + 1, 0, none⟩ = some (.int .u32 o.allowed) := HD5.out.cell 0
  have e1 : w5.cell? ⟨w.heap.size + 1, 1, none⟩ = some (.int .u32 0) := HD5.out.cell 1
  have e2 : w5.cell? ⟨w.heap.size + 1, 2, none⟩ = some (.int .u32 0) := HD5.out.cell 2
  have e3 : w5.cell? ⟨w.heap.size + 1, 3, none⟩ = some (.bool false) := HD5.out.cell 3
  have e4 : w5.cell? ⟨w.heap.size + 1, 4, none⟩ = some (.int .i64 o.seq) := HD5.out.cell 4
  refine bodyPost_ret (v := .agg #[.int .u32 o.allowed, .int .u32 0, .int .u32 0, .bool false, .int .i64 o.seq]) ?_ rfl ⟨rfl, (((Below.refl _ w).alloc (Nat.le_refl _) _).alloc (by simp) _).trans (HS5.out.below (by omega))⟩
  simp [results, Try.results23, go_sem, e0, e1, e2, e3, e4]

set_option maxHeartbeats 2000000 in
theorem play_find (X : Nat → Prop) (w w0 : World) (B j : Nat) (cs : List (Nat × St)) (cb : Nat) (s : St) (o : Opn) (h : Many X B w0 w cs) (hj : cs[j]? = some (cb, s)) (hc : s.Cnt 1000000) (hk : o.Wf) (hm : o.kind % 3 = 0) :
    Calls Try.prog 15 #[.pointer (some ⟨cb, 0, none⟩), .agg #[.int .u8 o.kind, .int .i64 o.src, .int .i64 o.tgt, .int .i64 o.cls, .int .u32 o.allowed, .int .i64 o.seq]] w fun e w' => e = .returned (.tuple #[]) ∧ Many X B w0 w' (cs.set j (cb, s.find o.key)) ∧ Aft X w w' := by
  have HM := Lib.hid h
  have HJ := Lib.hid hj
  have HC := Lib.hid hc
  have HK := Lib.hid hk
  have hk0 := hk.kind.1
  have hk1 := hk.kind.2
  clear h hj hc hk
  obtain ⟨wo, hwo⟩ : ∃ wo, wo = w.alloc (.cells #[.int .u8 o.kind, .int .i64 o.src, .int .i64 o.tgt, .int .i64 o.cls, .int .u32 o.allowed, .int .i64 o.seq] 35) := ⟨_, rfl⟩
  have HO := Lib.hid (show Whole wo w.heap.size 35 #[.int .u8 o.kind, .int .i64 o.src, .int .i64 o.tgt, .int .i64 o.cls, .int .u32 o.allowed, .int .i64 o.seq] by rw [hwo]; exact Whole.new w 35 _)
  have HBO := Lib.hid (show Below w.heap.size w wo by rw [hwo]; exact (Below.refl _ w).alloc (Nat.le_refl _) _)
  have k0 : (w.alloc (.cells #[.int .u8 o.kind, .int .i64 o.src, .int .i64 o.tgt, .int .i64 o.cls, .int .u32 o.allowed, .int .i64 o.seq] 35)).cell? ⟨w.heap.size, 0, none⟩ = some (.int .u8 o.kind) := hwo ▸ HO.out.cell 0
  have k1 : (w.alloc (.cells #[.int .u8 o.kind, .int .i64 o.src, .int .i64 o.tgt, .int .i64 o.cls, .int .u32 o.allowed, .int .i64 o.seq] 35)).cell? ⟨w.heap.size, 1, none⟩ = some (.int .i64 o.src) := hwo ▸ HO.out.cell 1
  have k2 : (w.alloc (.cells #[.int .u8 o.kind, .int .i64 o.src, .int .i64 o.tgt, .int .i64 o.cls, .int .u32 o.allowed, .int .i64 o.seq] 35)).cell? ⟨w.heap.size, 2, none⟩ = some (.int .i64 o.tgt) := hwo ▸ HO.out.cell 2
  have k3 : (w.alloc (.cells #[.int .u8 o.kind, .int .i64 o.src, .int .i64 o.tgt, .int .i64 o.cls, .int .u32 o.allowed, .int .i64 o.seq] 35)).cell? ⟨w.heap.size, 3, none⟩ = some (.int .i64 o.cls) := hwo ▸ HO.out.cell 3
  have k4 : (w.alloc (.cells #[.int .u8 o.kind, .int .i64 o.src, .int .i64 o.tgt, .int .i64 o.cls, .int .u32 o.allowed, .int .i64 o.seq] 35)).cell? ⟨w.heap.size, 4, none⟩ = some (.int .u32 o.allowed) := hwo ▸ HO.out.cell 4
  have k5 : (w.alloc (.cells #[.int .u8 o.kind, .int .i64 o.src, .int .i64 o.tgt, .int .i64 o.cls, .int .u32 o.allowed, .int .i64 o.seq] 35)).cell? ⟨w.heap.size, 5, none⟩ = some (.int .i64 o.seq) := hwo ▸ HO.out.cell 5
  go_enter Try.func15, Try.ntmps15
  go_wp2_with (go_at_call 21; rw [← hwo]; go_must (refine (find_m j o.key (HM.out.under HBO.out) HJ.out HC.out HK.out.key).mono ?_; rintro e w5 ⟨rfl, hm5, hs5⟩; have HR := Lib.hid (And.intro hm5 hs5); clear hm5 hs5))
  go_end0
  exact ⟨rfl, HR.out.1, (Aft.of_below HBO.out HM.out.aside).trans HR.out.2⟩

set_option maxHeartbeats 2000000 in
theorem play_reset (X : Nat → Prop) (w w0 : World) (B j : Nat) (cs : List (Nat × St)) (cb : Nat) (s : St) (o : Opn) (h : Many X B w0 w cs) (hj : cs[j]? = some (cb, s)) (hc : s.Cnt 1000000) (hk : o.Wf) (hm : o.kind % 3 = 2) :
    Calls Try.prog 15 #[.pointer (some ⟨cb, 0, none⟩), .agg #[.int .u8 o.kind, .int .i64 o.src, .int .i64 o.tgt, .int .i64 o.cls, .int .u32 o.allowed, .int .i64 o.seq]] w fun e w' => e = .returned (.tuple #[]) ∧ Many X B w0 w' (cs.set j (cb, s.resets o.seq)) ∧ Aft X w w' := by
  have HM := Lib.hid h
  have HJ := Lib.hid hj
  have HC := Lib.hid hc
  have HK := Lib.hid hk
  have hk0 := hk.kind.1
  have hk1 := hk.kind.2
  clear h hj hc hk
  obtain ⟨wo, hwo⟩ : ∃ wo, wo = w.alloc (.cells #[.int .u8 o.kind, .int .i64 o.src, .int .i64 o.tgt, .int .i64 o.cls, .int .u32 o.allowed, .int .i64 o.seq] 35) := ⟨_, rfl⟩
  have HO := Lib.hid (show Whole wo w.heap.size 35 #[.int .u8 o.kind, .int .i64 o.src, .int .i64 o.tgt, .int .i64 o.cls, .int .u32 o.allowed, .int .i64 o.seq] by rw [hwo]; exact Whole.new w 35 _)
  have HBO := Lib.hid (show Below w.heap.size w wo by rw [hwo]; exact (Below.refl _ w).alloc (Nat.le_refl _) _)
  have k0 : (w.alloc (.cells #[.int .u8 o.kind, .int .i64 o.src, .int .i64 o.tgt, .int .i64 o.cls, .int .u32 o.allowed, .int .i64 o.seq] 35)).cell? ⟨w.heap.size, 0, none⟩ = some (.int .u8 o.kind) := hwo ▸ HO.out.cell 0
  have k1 : (w.alloc (.cells #[.int .u8 o.kind, .int .i64 o.src, .int .i64 o.tgt, .int .i64 o.cls, .int .u32 o.allowed, .int .i64 o.seq] 35)).cell? ⟨w.heap.size, 1, none⟩ = some (.int .i64 o.src) := hwo ▸ HO.out.cell 1
  have k2 : (w.alloc (.cells #[.int .u8 o.kind, .int .i64 o.src, .int .i64 o.tgt, .int .i64 o.cls, .int .u32 o.allowed, .int .i64 o.seq] 35)).cell? ⟨w.heap.size, 2, none⟩ = some (.int .i64 o.tgt) := hwo ▸ HO.out.cell 2
  have k3 : (w.alloc (.cells #[.int .u8 o.kind, .int .i64 o.src, .int .i64 o.tgt, .int .i64 o.cls, .int .u32 o.allowed, .int .i64 o.seq] 35)).cell? ⟨w.heap.size, 3, none⟩ = some (.int .i64 o.cls) := hwo ▸ HO.out.cell 3
  have k4 : (w.alloc (.cells #[.int .u8 o.kind, .int .i64 o.src, .int .i64 o.tgt, .int .i64 o.cls, .int .u32 o.allowed, .int .i64 o.seq] 35)).cell? ⟨w.heap.size, 4, none⟩ = some (.int .u32 o.allowed) := hwo ▸ HO.out.cell 4
  have k5 : (w.alloc (.cells #[.int .u8 o.kind, .int .i64 o.src, .int .i64 o.tgt, .int .i64 o.cls, .int .u32 o.allowed, .int .i64 o.seq] 35)).cell? ⟨w.heap.size, 5, none⟩ = some (.int .i64 o.seq) := hwo ▸ HO.out.cell 5
  go_enter Try.func15, Try.ntmps15
  go_wp2_with (go_at_call 26; rw [← hwo]; go_must (refine (reset_m j o.seq (HM.out.under HBO.out) HJ.out HC.out).mono ?_; rintro e w5 ⟨rfl, hm5, hs5⟩; have HR := Lib.hid (And.intro hm5 hs5); clear hm5 hs5))
  go_end0
  exact ⟨rfl, HR.out.1, (Aft.of_below HBO.out HM.out.aside).trans HR.out.2⟩

set_option maxHeartbeats 2000000 in
theorem play_insert (X : Nat → Prop) (w w0 : World) (B j : Nat) (cs : List (Nat × St)) (cb : Nat) (s : St) (o : Opn) (h : Many X B w0 w cs) (hj : cs[j]? = some (cb, s)) (hc : s.Cnt 1000000) (hk : o.Wf) (hm : o.kind % 3 = 1) :
    Calls Try.prog 15 #[.pointer (some ⟨cb, 0, none⟩), .agg #[.int .u8 o.kind, .int .i64 o.src, .int .i64 o.tgt, .int .i64 o.cls, .int .u32 o.allowed, .int .i64 o.seq]] w fun e w' => e = .returned (.tuple #[]) ∧ Many X B w0 w' (cs.set j (cb, s.insert o.key o.dec)) ∧ Aft X w w' := by
  have HM := Lib.hid h
  have HJ := Lib.hid hj
  have HC := Lib.hid hc
  have HK := Lib.hid hk
  have hk0 := hk.kind.1
  have hk1 := hk.kind.2
  clear h hj hc hk
  obtain ⟨wo, hwo⟩ : ∃ wo, wo = w.alloc (.cells #[.int .u8 o.kind, .int .i64 o.src, .int .i64 o.tgt, .int .i64 o.cls, .int .u32 o.allowed, .int .i64 o.seq] 35) := ⟨_, rfl⟩
  have HO := Lib.hid (show Whole wo w.heap.size 35 #[.int .u8 o.kind, .int .i64 o.src, .int .i64 o.tgt, .int .i64 o.cls, .int .u32 o.allowed, .int .i64 o.seq] by rw [hwo]; exact Whole.new w 35 _)
  have HBO := Lib.hid (show Below w.heap.size w wo by rw [hwo]; exact (Below.refl _ w).alloc (Nat.le_refl _) _)
  have k0 : (w.alloc (.cells #[.int .u8 o.kind, .int .i64 o.src, .int .i64 o.tgt, .int .i64 o.cls, .int .u32 o.allowed, .int .i64 o.seq] 35)).cell? ⟨w.heap.size, 0, none⟩ = some (.int .u8 o.kind) := hwo ▸ HO.out.cell 0
  have k1 : (w.alloc (.cells #[.int .u8 o.kind, .int .i64 o.src, .int .i64 o.tgt, .int .i64 o.cls, .int .u32 o.allowed, .int .i64 o.seq] 35)).cell? ⟨w.heap.size, 1, none⟩ = some (.int .i64 o.src) := hwo ▸ HO.out.cell 1
  have k2 : (w.alloc (.cells #[.int .u8 o.kind, .int .i64 o.src, .int .i64 o.tgt, .int .i64 o.cls, .int .u32 o.allowed, .int .i64 o.seq] 35)).cell? ⟨w.heap.size, 2, none⟩ = some (.int .i64 o.tgt) := hwo ▸ HO.out.cell 2
  have k3 : (w.alloc (.cells #[.int .u8 o.kind, .int .i64 o.src, .int .i64 o.tgt, .int .i64 o.cls, .int .u32 o.allowed, .int .i64 o.seq] 35)).cell? ⟨w.heap.size, 3, none⟩ = some (.int .i64 o.cls) := hwo ▸ HO.out.cell 3
  have k4 : (w.alloc (.cells #[.int .u8 o.kind, .int .i64 o.src, .int .i64 o.tgt, .int .i64 o.cls, .int .u32 o.allowed, .int .i64 o.seq] 35)).cell? ⟨w.heap.size, 4, none⟩ = some (.int .u32 o.allowed) := hwo ▸ HO.out.cell 4
  have k5 : (w.alloc (.cells #[.int .u8 o.kind, .int .i64 o.src, .int .i64 o.tgt, .int .i64 o.cls, .int .u32 o.allowed, .int .i64 o.seq] 35)).cell? ⟨w.heap.size, 5, none⟩ = some (.int .i64 o.seq) := hwo ▸ HO.out.cell 5
  go_enter Try.func15, Try.ntmps15
  go_wp2_with fail
  rw [← hwo]
  clear k0 k1 k2 k3 k4 k5 hwo
  refine wp_region_last (fun w w' => Below w.heap.size w w') [some 23, some 24, some 25, some 26, some 27, some 28, some 29, some 30, some 31] [isV (.pointer (some ⟨cb, 0, none⟩)), isV (.pointer (some ⟨w.heap.size, 1, none⟩)), isV (.int .i64 o.src), isV (.pointer (some ⟨w.heap.size, 2, none⟩)), isV (.int .i64 o.tgt), isV (.pointer (some ⟨w.heap.size, 3, none⟩)), isV (.int .i64 o.cls), isV (.agg #[.int .u8 o.kind, .int .i64 o.src, .int .i64 o.tgt, .int .i64 o.cls, .int .u32 o.allowed, .int .i64 o.seq]), isV (.agg #[.int .u32 o.allowed, .int .u32 0, .int .u32 0, .bool false, .int .i64 o.seq])] (fun _ w' => Below wo.heap.size wo w') 9 (by kernel_rfl) (by kernel_rfl) (by kernel_rfl) rfl (by decide) rfl rfl ((Below.refl _ _).drew) ⟨lasts_is _, lasts_is _, lasts_is _, lasts_is _, lasts_is _, lasts_is _, lasts_is _, lasts_is _, lasts_is _, trivial⟩ ⟨(fun _ => lastsR_is _), (fun _ => lastsR_is _), (fun _ => lastsR_is _), (fun _ => lastsR_is _), (fun _ => lastsR_is _), (fun _ => lastsR_is _), (fun _ => lastsR_is _), (fun _ => lastsR_is _), (fun _ => lastsR_is _), trivial⟩ ⟨?_, ?_, ?_, ?_, ?_, ?_, ?_, ?_, ?_, ?_⟩
  · intro L a wx Q' hL hi H F hK
    try dsimp only at hi
    have h0 : a.tmps[0]? = some (.pointer (some ⟨cb, 0, none⟩)) := F 0 rfl
    have HI := Lib.hid hi
    clear H F hi hL
    go_wp2_with fail
    exact hK _ _ (Below.refl _ _) HI.out rfl
  · intro L a wx Q' hL hi H F hK
    try dsimp only at hi
    have h3 : a.tmps[3]? = some (.pointer (some ⟨w.heap.size, 0, none⟩)) := F 3 rfl
    have HI := Lib.hid hi
    clear H F hi hL
    go_wp2_with fail
    exact hK _ _ (Below.refl _ _) HI.out rfl
  · intro L a wx Q' hL hi H F hK
    try dsimp only at hi
    obtain ⟨_, h24, rfl⟩ := H 1 ⟨.data, by simp, rfl⟩ _ rfl
    replace h24 := h24 _ rfl
    have HI := Lib.hid hi
    clear H F hi hL
    have kq0 : wx.cell? ⟨w.heap.size, 1, none⟩ = some (.int .i64 o.src) := (Whole.under HI.out HO.out (Whole.lt HO.out)).cell 1
    go_wp2_with fail
    exact hK _ _ (Below.refl _ _) HI.out rfl
  · intro L a wx Q' hL hi H F hK
    try dsimp only at hi
    have h3 : a.tmps[3]? = some (.pointer (some ⟨w.heap.size, 0, none⟩)) := F 3 rfl
    have HI := Lib.hid hi
    clear H F hi hL
    go_wp2_with fail
    exact hK _ _ (Below.refl _ _) HI.out rfl
  · intro L a wx Q' hL hi H F hK
    try dsimp only at hi
    obtain ⟨_, h26, rfl⟩ := H 3 ⟨.data, by simp, rfl⟩ _ rfl
    replace h26 := h26 _ rfl
    have HI := Lib.hid hi
    clear H F hi hL
    have kq0 : wx.cell? ⟨w.heap.size, 2, none⟩ = some (.int .i64 o.tgt) := (Whole.under HI.out HO.out (Whole.lt HO.out)).cell 2
    go_wp2_with fail
    exact hK _ _ (Below.refl _ _) HI.out rfl
  · intro L a wx Q' hL hi H F hK
    try dsimp only at hi
    have h3 : a.tmps[3]? = some (.pointer (some ⟨w.heap.size, 0, none⟩)) := F 3 rfl
    have HI := Lib.hid hi
    clear H F hi hL
    go_wp2_with fail
    exact hK _ _ (Below.refl _ _) HI.out rfl
  · intro L a wx Q' hL hi H F hK
    try dsimp only at hi
    obtain ⟨_, h28, rfl⟩ := H 5 ⟨.data, by simp, rfl⟩ _ rfl
    replace h28 := h28 _ rfl
    have HI := Lib.hid hi
    clear H F hi hL
    have kq0 : wx.cell? ⟨w.heap.size, 3, none⟩ = some (.int .i64 o.cls) := (Whole.under HI.out HO.out (Whole.lt HO.out)).cell 3
    go_wp2_with fail
    exact hK _ _ (Below.refl _ _) HI.out rfl
  · intro L a wx Q' hL hi H F hK
    try dsimp only at hi
    have h3 : a.tmps[3]? = some (.pointer (some ⟨w.heap.size, 0, none⟩)) := F 3 rfl
    have HI := Lib.hid hi
    clear H F hi hL
    have kq0 : wx.cell? ⟨w.heap.size, 0, none⟩ = some (.int .u8 o.kind) := (Whole.under HI.out HO.out (Whole.lt HO.out)).cell 0
    have kq1 : wx.cell? ⟨w.heap.size, 1, none⟩ = some (.int .i64 o.src) := (Whole.under HI.out HO.out (Whole.lt HO.out)).cell 1
    have kq2 : wx.cell? ⟨w.heap.size, 2, none⟩ = some (.int .i64 o.tgt) := (Whole.under HI.out HO.out (Whole.lt HO.out)).cell 2
    have kq3 : wx.cell? ⟨w.heap.size, 3, none⟩ = some (.int .i64 o.cls) := (Whole.under HI.out HO.out (Whole.lt HO.out)).cell 3
    have kq4 : wx.cell? ⟨w.heap.size, 4, none⟩ = some (.int .u32 o.allowed) := (Whole.under HI.out HO.out (Whole.lt HO.out)).cell 4
    have kq5 : wx.cell? ⟨w.heap.size, 5, none⟩ = some (.int .i64 o.seq) := (Whole.under HI.out HO.out (Whole.lt HO.out)).cell 5
    go_wp2_with fail
    exact hK _ _ (Below.refl _ _) HI.out rfl
  · intro L a wx Q' hL hi H F hK
    try dsimp only at hi
    obtain ⟨_, h30, rfl⟩ := H 7 ⟨.data, by simp, rfl⟩ _ rfl
    replace h30 := h30 _ rfl
    have HI := Lib.hid hi
    clear H F hi hL
    go_wp2_with (go_at_call 23; go_must (refine (decision_any o _).mono ?_; rintro e w1 ⟨rfl, hb1⟩))
    exact hK _ _ hb1 (HI.out.trans (hb1.mono HI.out.size)) rfl
  · intro a wx hl L hi hL Q' hK
    try dsimp only at hi
    have HB := Lib.hid hi
    clear hi hL
    obtain ⟨_, rfl, _, rfl, _, rfl, _, rfl, _, rfl, _, rfl, _, rfl, _, rfl, _, rfl, rfl⟩ := hl
    simp only [List.setIfInBounds_toArray, List.set_cons_zero, List.set_cons_succ]
    go_wp2_with (go_at_call 22; go_must (refine (insert_m j o.key o.dec (HM.out.under (HBO.out.trans (HB.out.mono HBO.out.size))) HJ.out HC.out HK.out.key).mono ?_; rintro e w5 ⟨rfl, hm5, hs5⟩; have HR := Lib.hid (And.intro hm5 hs5); clear hm5 hs5))
    go_end0
    exact ⟨rfl, HR.out.1, (Aft.of_below (HBO.out.trans (HB.out.mono HBO.out.size)) HM.out.aside).trans HR.out.2⟩
    

theorem play_m (X : Nat → Prop) (w w0 : World) (B j : Nat) (cs : List (Nat × St)) (cb : Nat) (s : St) (o : Opn) (h : Many X B w0 w cs) (hj : cs[j]? = some (cb, s)) (hc : s.Cnt 1000000) (hk : o.Wf) : Calls Try.prog 15 #[.pointer (some ⟨cb, 0, none⟩), .agg #[.int .u8 o.kind, .int .i64 o.src, .int .i64 o.tgt, .int .i64 o.cls, .int .u32 o.allowed, .int .i64 o.seq]] w fun e w' => e = .returned (.tuple #[]) ∧ Many X B w0 w' (cs.set j (cb, s.play o)) ∧ Aft X w w' := by
  unfold St.play
  by_cases h0 : o.kind % 3 = 0
  · rw [if_pos h0]; exact play_find X w w0 B j cs cb s o h hj hc hk h0
  · rw [if_neg h0]
    by_cases h1 : o.kind % 3 = 1
    · rw [if_pos h1]; exact play_insert X w w0 B j cs cb s o h hj hc hk h1
    · rw [if_neg h1]; exact play_reset X w w0 B j cs cb s o h hj hc hk (by omega)

/-! ### Keys compared -/
set_option maxHeartbeats 2000000 in
theorem same_keys (w : World) (v v' : Value) (ks : List Key) (h : KeysAt w v ks) (h' : KeysAt w v' ks) : Calls Try.prog 25 #[v, v'] w fun e w' => e = .returned (.bool true) ∧ Below w.heap.size w w' := by
  obtain ⟨a, c, rfl, hac, hmx, HA⟩ := (keys_slice h).form (by decide)
  obtain ⟨a', c', rfl, hac', -, HA'⟩ := (keys_slice h').form (by decide)
  have H1 := Lib.hid HA
  have H2 := Lib.hid HA'
  clear HA HA' h h'
  go_enter Try.func25, Try.ntmps25
  go_wp2
  go_loopw [5] (fun i wr => ∃ n : Nat, n ≤ ks.length ∧ i = .int .i64 n ∧ Below w.heap.size w wr) (fun i _ => ks.length - (intOf i).toNat)
  case atStart => exact ⟨0, Nat.zero_le _, rfl, Below.refl _ _⟩
  case round =>
    obtain ⟨n, hn, rfl, hb⟩ := hrel
    have HB := Lib.hid hb
    clear hb
    by_cases hlt : n < ks.length
    · obtain ⟨b, off, rfl, hc⟩ := H1.out n hlt
      obtain ⟨b', off', rfl, hc'⟩ := H2.out n hlt
      obtain ⟨y, hy⟩ : ∃ y, ks[n]? = some y := ⟨_, List.getElem?_eq_getElem hlt⟩
      have key : ∀ j, j < 3 → (flat ks)[n * 3 + j]? = y.cells[j]? := fun j hj => flat_at (f := Key.cells) cells_len hy j hj
      have c0 : wr.cell? ⟨b, off + n * 3, none⟩ = some (.int .i64 y.a) := cell_later HB.out (hc 0 _ (key 0 (by omega)))
      have c1 : wr.cell? ⟨b, off + n * 3 + 1, none⟩ = some (.int .i64 y.b) := cell_later HB.out (hc 1 _ (key 1 (by omega)))
      have c2 : wr.cell? ⟨b, off + n * 3 + 2, none⟩ = some (.int .i64 y.c) := cell_later HB.out (hc 2 _ (key 2 (by omega)))
      have d0 : wr.cell? ⟨b', off' + n * 3, none⟩ = some (.int .i64 y.a) := cell_later HB.out (hc' 0 _ (key 0 (by omega)))
      have d1 : wr.cell? ⟨b', off' + n * 3 + 1, none⟩ = some (.int .i64 y.b) := cell_later HB.out (hc' 1 _ (key 1 (by omega)))
      have d2 : wr.cell? ⟨b', off' + n * 3 + 2, none⟩ = some (.int .i64 y.c) := cell_later HB.out (hc' 2 _ (key 2 (by omega)))
      have q : ∀ W : World, (Op.equalIn 10000 41 (.agg #[.int .i64 y.a, .int .i64 y.b, .int .i64 y.c]) (.agg #[.int .i64 y.a, .int .i64 y.b, .int .i64 y.c])).run Try.prog W = .ok true W := fun W => by rw [eq_key]; simp
      clear hc hc' key hy
      go_wp2
      go_quiet (fail)
      go_wp2
      go_roundw
      case rel => exact ⟨n + 1, by omega, by go_num, below_drewN HB.out _⟩
      case measure => simp [intOf]; omega
    · obtain rfl : n = ks.length := by omega
      go_wp2
      go_ret
      exact ⟨rfl, HB.out⟩

end Go.Proofs.Ytcdhjcjdphnleaa
