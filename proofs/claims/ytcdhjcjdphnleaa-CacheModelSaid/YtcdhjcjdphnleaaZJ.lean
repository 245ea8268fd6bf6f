import Derived.Test.YtcdhjcjdphnleaaZI
import Derived.Test.YtcdhjcjdphnleaaYC
import Derived.Test.YtcdhjcjdphnleaaYM
/-
  One operation on the cache and on the reference.
-/
namespace Go.Proofs.Ytcdhjcjdphnleaa
open Go Go.WideMaps Go.RowKit

set_option maxHeartbeats 8000000 in
theorem step_find (Y : Nat → Prop) (w w0 : World) (B cb : Nat) (s : St) (o : Opn) (kv dv : Value) (h : Many (XR kv dv Y) B w0 w [(cb, s)]) (hr : RefAt w kv dv s) (hc : s.Cnt 1000000) (hk : o.Wf) (hm : o.kind % 3 = 0) :
    Calls Try.prog 13 #[.pointer (some ⟨cb, 0, none⟩), .agg #[.int .i64 s.size, .int .i64 s.seq, kv, dv, .int .i64 s.h, .int .i64 s.m, .int .i64 s.e, .int .i64 s.r], .agg #[.int .u8 o.kind, .int .i64 o.src, .int .i64 o.tgt, .int .i64 o.cls, .int .u32 o.allowed, .int .i64 o.seq]] w fun e w' => ∃ kv' dv', e = .returned (.tuple #[.agg #[.int .i64 (s.find o.key).size, .int .i64 (s.find o.key).seq, kv', dv', .int .i64 (s.find o.key).h, .int .i64 (s.find o.key).m, .int .i64 (s.find o.key).e, .int .i64 (s.find o.key).r], .bool true]) ∧ Many (XR kv' dv' Y) B w0 w' [(cb, s.find o.key)] ∧ RefAt w' kv' dv' (s.find o.key) ∧ Fresh w.heap.size w' kv dv kv' dv' ∧ Aft Y w w' := by
  have hok := h.ok (j := 0) rfl
  obtain ⟨ka, km, kc, rfl⟩ := own_shape hr.keys
  obtain ⟨da, dm, dc, rfl⟩ := own_shape hr.decs
  obtain ⟨t, ht⟩ : ∃ t, s.find o.key = t := ⟨_, rfl⟩
  rw [ht]
  have HT := Lib.hid ht
  obtain ⟨d, hd⟩ : ∃ d, s.dec o.key = d := ⟨_, rfl⟩
  obtain ⟨b, hbv⟩ : ∃ b, s.has o.key = b := ⟨_, rfl⟩
  have HD := Lib.hid hd
  have HBV := Lib.hid hbv
  clear hd hbv
  obtain ⟨wo, hwo⟩ : ∃ wo, wo = ((w.alloc (.cells #[.int .i64 s.size, .int .i64 s.seq, .slice ka km kc, .slice da dm dc, .int .i64 s.h, .int .i64 s.m, .int .i64 s.e, .int .i64 s.r] 29)).alloc (.cells #[.int .u8 o.kind, .int .i64 o.src, .int .i64 o.tgt, .int .i64 o.cls, .int .u32 o.allowed, .int .i64 o.seq] 35)).alloc (.cells #[.int .i64 0, .int .i64 0, .slice none 0 0, .slice none 0 0, .int .i64 0, .int .i64 0, .int .i64 0, .int .i64 0] 29) := ⟨_, rfl⟩
  have HS0 := Lib.hid (show Whole wo w.heap.size 29 #[.int .i64 s.size, .int .i64 s.seq, .slice ka km kc, .slice da dm dc, .int .i64 s.h, .int .i64 s.m, .int .i64 s.e, .int .i64 s.r] by rw [hwo]; exact ((Whole.new w 29 #[.int .i64 s.size, .int .i64 s.seq, .slice ka km kc, .slice da dm dc, .int .i64 s.h, .int .i64 s.m, .int .i64 s.e, .int .i64 s.r]).alloc _).alloc _)
  have HO0 := Lib.hid (show Whole wo (w.heap.size + 1) 35 #[.int .u8 o.kind, .int .i64 o.src, .int .i64 o.tgt, .int .i64 o.cls, .int .u32 o.allowed, .int .i64 o.seq] by rw [hwo]; exact (whole_two w _ #[.int .u8 o.kind, .int .i64 o.src, .int .i64 o.tgt, .int .i64 o.cls, .int .u32 o.allowed, .int .i64 o.seq] _).alloc _)
  have HR0 := Lib.hid (show Whole wo (w.heap.size + 2) 29 #[.int .i64 0, .int .i64 0, .slice none 0 0, .slice none 0 0, .int .i64 0, .int .i64 0, .int .i64 0, .int .i64 0] by rw [hwo]; exact whole_three w _ _ #[.int .i64 0, .int .i64 0, .slice none 0 0, .slice none 0 0, .int .i64 0, .int .i64 0, .int .i64 0, .int .i64 0] _)
  have HBO := Lib.hid (show Below w.heap.size w wo by rw [hwo]; exact (((Below.refl _ w).alloc (Nat.le_refl _) _).alloc (by simp) _).alloc (by simp; omega) _)
  have HN0 := Lib.hid (show wo.heap.size = w.heap.size + 3 by rw [hwo]; simp)
  have HYL := Lib.hid (show ∀ i, Y i → i < w.heap.size from fun i hi => h.aside i (.inl hi))
  have HKL := Lib.hid (show ∀ g, (Value.slice ka km kc).ownBlock = some g → g < w.heap.size from fun i hi => h.aside i (.inr (.inl hi)))
  have HDL := Lib.hid (show ∀ g, (Value.slice da dm dc).ownBlock = some g → g < w.heap.size from fun i hi => h.aside i (.inr (.inr hi)))
  have HBB := Lib.hid h.base
  have HM0 := Lib.hid (show Many (fun i => XR (.slice ka km kc) (.slice da dm dc) Y i ∨ (w.heap.size ≤ i ∧ i < w.heap.size + 3)) B w0 wo [(cb, s)] from h.other HBO.out (fun i hi => hi.imp id fun hi => ⟨hi.1, by have := HN0.out; omega⟩))
  have HRF := Lib.hid (hr.under HBO.out)
  have HC := Lib.hid hc
  have HK := Lib.hid hk
  have HOK := Lib.hid hok
  have hk0 := hk.kind.1
  have hk1 := hk.kind.2
  clear h hr hc hk ht hok
  have k0 : wo.cell? ⟨w.heap.size + 1, 0, none⟩ = some (.int .u8 o.kind) := HO0.out.cell 0
  have k1 : wo.cell? ⟨w.heap.size + 1, 1, none⟩ = some (.int .i64 o.src) := HO0.out.cell 1
  have k2 : wo.cell? ⟨w.heap.size + 1, 2, none⟩ = some (.int .i64 o.tgt) := HO0.out.cell 2
  have k3 : wo.cell? ⟨w.heap.size + 1, 3, none⟩ = some (.int .i64 o.cls) := HO0.out.cell 3
  go_enter Try.func13, Try.ntmps13
  go_upto_region 1 with (fail)
  rw [← hwo]
  clear hwo
  go_wp2_with (first | (go_at_call 21; go_must (refine (find_l t o.key d b HD.out HBV.out HT.out HM0.out HC.out HK.out.key).mono ?_; rintro e w2 ⟨rfl, hm2, ha2⟩; have HM2 := Lib.hid hm2; have HA2 := Lib.hid ha2; have HS02 := Lib.hid (ha2.whole HS0.out (.inr ⟨by omega, by omega⟩)); have HO02 := Lib.hid (ha2.whole HO0.out (.inr ⟨by omega, by omega⟩)); have HR02 := Lib.hid (ha2.whole HR0.out (.inr ⟨by omega, by omega⟩)); have HRF2 := Lib.hid (HRF.out.aft ha2 (fun g e => .inl (.inr (.inl e))) (fun g e => .inl (.inr (.inr e)))); clear hm2 ha2 HM0 HS0 HO0 HR0 HRF k0 k1 k2 k3; have HN2 := Lib.hid (show wo.heap.size ≤ w2.heap.size from HA2.out.size))) | (refine wpList_store_blk rfl 46 _ _ rfl (w2.heap.size) 0 (.agg #[.int .u32 d.allowed, .int .u32 d.auditAllow, .int .u32 d.auditDeny, .bool d.permissive, .int .i64 d.seq]) rfl rfl 46 _ (Whole.new w2 46 _) (by simp [Value.cells]) size46 rfl ?_; intro w3 S3 W3; rw [splice_all _ _ (by rfl)] at W3; have HS3 := Lib.hid S3; have HW3 := Lib.hid (show Whole w3 (w2.heap.size) 46 #[.int .u32 d.allowed, .int .u32 d.auditAllow, .int .u32 d.auditDeny, .bool d.permissive, .int .i64 d.seq] from W3); clear S3 W3; have HB3 := Lib.hid (show Below w2.heap.size w2 w3 from ((Below.refl _ w2).alloc (Nat.le_refl _) _).trans (HS3.out.below (Nat.le_refl _))); have HS03 := Lib.hid (Whole.under HB3.out HS02.out HS02.out.lt); have HO03 := Lib.hid (Whole.under HB3.out HO02.out HO02.out.lt); have HR03 := Lib.hid (Whole.under HB3.out HR02.out HR02.out.lt); have HM3 := Lib.hid (HM2.out.under HB3.out); have HRF3 := Lib.hid (show RefAt w3 _ _ s from ⟨HRF2.out.keys.keep HB3.out, HRF2.out.decs.keep HB3.out⟩); have k1 : w3.cell? ⟨w.heap.size + 1, 1, none⟩ = some (.int .i64 o.src) := HO03.out.cell 1; have k2 : w3.cell? ⟨w.heap.size + 1, 2, none⟩ = some (.int .i64 o.tgt) := HO03.out.cell 2; have k3 : w3.cell? ⟨w.heap.size + 1, 3, none⟩ = some (.int .i64 o.cls) := HO03.out.cell 3; clear HS3 HS02 HO02 HR02 HM2 HRF2) | (have hZ := HS03; clear hZ; refine wpList_load_row rfl 29 _ rfl (w.heap.size) rfl 29 _ (0, 0) _ (HS03.out) Try.underlying29 rfl size29 ?_) | (go_at_call 27; go_must (refine (refFind_l w3 s t _ _ o.key d b HD.out HBV.out HT.out HRF3.out HOK.out HC.out).mono ?_; rintro e w4 ⟨kv', dv', rfl, hr4, hf4, hb4⟩; obtain ⟨ja, jm, jc, rfl⟩ := own_shape hr4.keys; obtain ⟨ea, em, ec, rfl⟩ := own_shape hr4.decs; have HRF4 := Lib.hid hr4; have HFR4 := Lib.hid hf4; have HB4 := Lib.hid hb4; have HM4 := Lib.hid (HM3.out.fresh (fun g e => .inl (.inr (.inl e))) (fun g e => .inl (.inr (.inr e))) hf4 hb4); have HR04 := Lib.hid (Whole.under hb4 HR03.out HR03.out.lt); have HD4 := Lib.hid (Whole.under hb4 HW3.out HW3.out.lt); clear hr4 hf4 hb4 HS03 HO03 HR03 HM3 HRF3 HW3 k1 k2 k3)) | (refine wpList_store_blk rfl 29 _ _ rfl (w4.heap.size) 0 (.agg #[.int .i64 t.size, .int .i64 t.seq, .slice ja jm jc, .slice ea em ec, .int .i64 t.h, .int .i64 t.m, .int .i64 t.e, .int .i64 t.r]) rfl rfl 29 _ ((Whole.new w4 29 #[.int .i64 0, .int .i64 0, .slice none 0 0, .slice none 0 0, .int .i64 0, .int .i64 0, .int .i64 0, .int .i64 0]).alloc _) (by simp [Value.cells]) size29 rfl ?_; intro w5 S5 W5; rw [splice_all _ _ (by rfl)] at W5; have HS5 := Lib.hid S5; have HW5 := Lib.hid (show Whole w5 (w4.heap.size) 29 #[.int .i64 t.size, .int .i64 t.seq, .slice ja jm jc, .slice ea em ec, .int .i64 t.h, .int .i64 t.m, .int .i64 t.e, .int .i64 t.r] from W5); clear S5 W5) | (have hZ := HS5; clear hZ; refine wpList_store_blk rfl 46 _ _ rfl (w4.heap.size + 1) 0 (.agg #[.int .u32 d.allowed, .int .u32 d.auditAllow, .int .u32 d.auditDeny, .bool d.permissive, .int .i64 d.seq]) rfl rfl 46 _ (HS5.out.whole (whole_two w4 _ #[.int .u32 0, .int .u32 0, .int .u32 0, .bool false, .int .i64 0] _) (by omega)) (by simp [Value.cells]) size46 rfl ?_; intro w6 S6 W6; rw [splice_all _ _ (by rfl)] at W6; have HS6 := Lib.hid S6; have HW6 := Lib.hid (show Whole w6 (w4.heap.size + 1) 46 #[.int .u32 d.allowed, .int .u32 d.auditAllow, .int .u32 d.auditDeny, .bool d.permissive, .int .i64 d.seq] from W6); clear S6 W6))
  have HB6 := Lib.hid (show Below w4.heap.size w4 w6 from ((((Below.refl _ w4).alloc (Nat.le_refl _) _).alloc (by simp) _).trans (HS5.out.below (Nat.le_refl _))).trans (HS6.out.below (by omega)))
  have HT6 := Lib.hid (HS6.out.whole HW5.out (by omega))
  have HR06 := Lib.hid (Whole.under HB6.out HR04.out HR04.out.lt)
  have HD6 := Lib.hid (Whole.under HB6.out HD4.out HD4.out.lt)
  have HM6 := Lib.hid (HM4.out.under HB6.out)
  have HRF6 := Lib.hid (show RefAt w6 _ _ t from ⟨HRF4.out.keys.keep HB6.out, HRF4.out.decs.keep HB6.out⟩)
  have HFR6 := Lib.hid (HFR4.out.keep HB6.out (Nat.le_refl _))
  have HN4 := Lib.hid (show w2.heap.size < w4.heap.size from HD4.out.lt)
  have HA6 := Lib.hid (show Aft Y w w6 from (((Aft.of_below HBO.out HYL.out).trans (HA2.out.less fun i hi => .inl (.inl hi))).trans (Aft.of_below HB3.out fun i hi => by have := HYL.out i hi; have := HN0.out; have := HN2.out; omega)).trans ((Aft.of_below HB4.out fun i hi => by have := HYL.out i hi; have := HN0.out; have := HN2.out; have := HB3.out.size; omega).trans (Aft.of_below HB6.out fun i hi => by have := HYL.out i hi; have := HN0.out; have := HN2.out; have := HN4.out; omega)))
  clear HS5 HS6 HW5 HR04 HD4 HM4 HRF4 HFR4
  refine wp_region_last (fun _ _ => True) [some 47, some 48, some 49, some 50, some 51, some 52, some 53, some 54, some 55, none] [isV (.agg #[.int .i64 t.size, .int .i64 t.seq, .slice ja jm jc, .slice ea em ec, .int .i64 t.h, .int .i64 t.m, .int .i64 t.e, .int .i64 t.r]), isV (.agg #[.int .u32 d.allowed, .int .u32 d.auditAllow, .int .u32 d.auditDeny, .bool d.permissive, .int .i64 d.seq]), isV (.agg #[.int .u32 d.allowed, .int .u32 d.auditAllow, .int .u32 d.auditDeny, .bool d.permissive, .int .i64 d.seq]), isV (.bool true), isV (.bool true), isV (.bool b), isV (.bool b), isV (.bool true), isV (.bool true), fun _ w' => Whole w' (w.heap.size + 2) 29 #[.int .i64 t.size, .int .i64 t.seq, .slice ja jm jc, .slice ea em ec, .int .i64 t.h, .int .i64 t.m, .int .i64 t.e, .int .i64 t.r]] (fun L w' => Sto w6 w' (w.heap.size + 2) ∧ (L 9 = false → Whole w' (w.heap.size + 2) 29 #[.int .i64 0, .int .i64 0, .slice none 0 0, .slice none 0 0, .int .i64 0, .int .i64 0, .int .i64 0, .int .i64 0])) 9 (by kernel_rfl) (by kernel_rfl) (by kernel_rfl) rfl (by decide) rfl rfl (⟨⟨rfl, rfl, rfl, rfl, fun _ _ => rfl⟩, fun _ => HR06.out⟩) ⟨lasts_is _, lasts_is _, lasts_is _, lasts_is _, lasts_is _, lasts_is _, lasts_is _, lasts_is _, lasts_is _, (fun u wa wb h hb => Whole.under hb h (Whole.lt h)), trivial⟩ ⟨(fun _ => lastsR_is _), (fun _ => lastsR_is _), (fun _ => lastsR_is _), (fun _ => lastsR_is _), (fun _ => lastsR_is _), (fun _ => lastsR_is _), (fun _ => lastsR_is _), (fun _ => lastsR_is _), (fun _ => lastsR_is _), (fun h => absurd rfl h), trivial⟩ ⟨?_, ?_, ?_, ?_, ?_, ?_, ?_, ?_, ?_, ?_, ?_⟩
  · intro L a wx Q' hL hi H F hK
    try dsimp only at hi
    have h10 : a.tmps[10]? = some (.pointer (some ⟨w4.heap.size, 0, none⟩)) := F 10 rfl
    have HI := Lib.hid hi
    clear H F hi hL
    have kq0 : wx.cell? ⟨w4.heap.size, 0, none⟩ = some (.int .i64 t.size) := (HI.out.1.whole HT6.out (by have := HN0.out; have := HN2.out; have := HN4.out; omega)).cell 0
    have kq1 : wx.cell? ⟨w4.heap.size, 1, none⟩ = some (.int .i64 t.seq) := (HI.out.1.whole HT6.out (by have := HN0.out; have := HN2.out; have := HN4.out; omega)).cell 1
    have kq2 : wx.cell? ⟨w4.heap.size, 2, none⟩ = some (.slice ja jm jc) := (HI.out.1.whole HT6.out (by have := HN0.out; have := HN2.out; have := HN4.out; omega)).cell 2
    have kq3 : wx.cell? ⟨w4.heap.size, 3, none⟩ = some (.slice ea em ec) := (HI.out.1.whole HT6.out (by have := HN0.out; have := HN2.out; have := HN4.out; omega)).cell 3
    have kq4 : wx.cell? ⟨w4.heap.size, 4, none⟩ = some (.int .i64 t.h) := (HI.out.1.whole HT6.out (by have := HN0.out; have := HN2.out; have := HN4.out; omega)).cell 4
    have kq5 : wx.cell? ⟨w4.heap.size, 5, none⟩ = some (.int .i64 t.m) := (HI.out.1.whole HT6.out (by have := HN0.out; have := HN2.out; have := HN4.out; omega)).cell 5
    have kq6 : wx.cell? ⟨w4.heap.size, 6, none⟩ = some (.int .i64 t.e) := (HI.out.1.whole HT6.out (by have := HN0.out; have := HN2.out; have := HN4.out; omega)).cell 6
    have kq7 : wx.cell? ⟨w4.heap.size, 7, none⟩ = some (.int .i64 t.r) := (HI.out.1.whole HT6.out (by have := HN0.out; have := HN2.out; have := HN4.out; omega)).cell 7
    go_wp2_with fail
    exact hK _ _ (Below.refl _ _) HI.out rfl
  · intro L a wx Q' hL hi H F hK
    try dsimp only at hi
    have h8 : a.tmps[8]? = some (.pointer (some ⟨w2.heap.size, 0, none⟩)) := F 8 rfl
    have HI := Lib.hid hi
    clear H F hi hL
    have kq0 : wx.cell? ⟨w2.heap.size, 0, none⟩ = some (.int .u32 d.allowed) := (HI.out.1.whole HD6.out (by have := HN0.out; have := HN2.out; have := HN4.out; omega)).cell 0
    have kq1 : wx.cell? ⟨w2.heap.size, 1, none⟩ = some (.int .u32 d.auditAllow) := (HI.out.1.whole HD6.out (by have := HN0.out; have := HN2.out; have := HN4.out; omega)).cell 1
    have kq2 : wx.cell? ⟨w2.heap.size, 2, none⟩ = some (.int .u32 d.auditDeny) := (HI.out.1.whole HD6.out (by have := HN0.out; have := HN2.out; have := HN4.out; omega)).cell 2
    have kq3 : wx.cell? ⟨w2.heap.size, 3, none⟩ = some (.bool d.permissive) := (HI.out.1.whole HD6.out (by have := HN0.out; have := HN2.out; have := HN4.out; omega)).cell 3
    have kq4 : wx.cell? ⟨w2.heap.size, 4, none⟩ = some (.int .i64 d.seq) := (HI.out.1.whole HD6.out (by have := HN0.out; have := HN2.out; have := HN4.out; omega)).cell 4
    go_wp2_with fail
    exact hK _ _ (Below.refl _ _) HI.out rfl
  · intro L a wx Q' hL hi H F hK
    try dsimp only at hi
    have h11 : a.tmps[11]? = some (.pointer (some ⟨w4.heap.size + 1, 0, none⟩)) := F 11 rfl
    have HI := Lib.hid hi
    clear H F hi hL
    have kq0 : wx.cell? ⟨w4.heap.size + 1, 0, none⟩ = some (.int .u32 d.allowed) := (HI.out.1.whole HW6.out (by have := HN0.out; have := HN2.out; have := HN4.out; omega)).cell 0
    have kq1 : wx.cell? ⟨w4.heap.size + 1, 1, none⟩ = some (.int .u32 d.auditAllow) := (HI.out.1.whole HW6.out (by have := HN0.out; have := HN2.out; have := HN4.out; omega)).cell 1
    have kq2 : wx.cell? ⟨w4.heap.size + 1, 2, none⟩ = some (.int .u32 d.auditDeny) := (HI.out.1.whole HW6.out (by have := HN0.out; have := HN2.out; have := HN4.out; omega)).cell 2
    have kq3 : wx.cell? ⟨w4.heap.size + 1, 3, none⟩ = some (.bool d.permissive) := (HI.out.1.whole HW6.out (by have := HN0.out; have := HN2.out; have := HN4.out; omega)).cell 3
    have kq4 : wx.cell? ⟨w4.heap.size + 1, 4, none⟩ = some (.int .i64 d.seq) := (HI.out.1.whole HW6.out (by have := HN0.out; have := HN2.out; have := HN4.out; omega)).cell 4
    go_wp2_with fail
    exact hK _ _ (Below.refl _ _) HI.out rfl
  · intro L a wx Q' hL hi H F hK
    try dsimp only at hi
    obtain ⟨_, h48, rfl⟩ := H 1 ⟨.data, by simp, rfl⟩ _ rfl
    replace h48 := h48 _ rfl
    obtain ⟨_, h49, rfl⟩ := H 2 ⟨.data, by simp, rfl⟩ _ rfl
    replace h49 := h49 _ rfl
    have HI := Lib.hid hi
    clear H F hi hL
    have q := eq_dec d.allowed d.auditAllow d.auditDeny d.seq d.permissive
    go_wp2_with fail
    exact hK _ _ (Below.refl _ _) HI.out rfl
  · intro L a wx Q' hL hi H F hK
    try dsimp only at hi
    obtain ⟨_, h50, rfl⟩ := H 3 ⟨.data, by simp, rfl⟩ _ rfl
    replace h50 := h50 _ rfl
    have HI := Lib.hid hi
    clear H F hi hL
    go_wp2_with fail
    exact hK _ _ (Below.refl _ _) HI.out rfl
  · intro L a wx Q' hL hi H F hK
    try dsimp only at hi
    obtain ⟨_, h51, rfl⟩ := H 4 ⟨.guard, by simp, rfl⟩ _ rfl
    replace h51 := h51 _ rfl
    have h9 : a.tmps[9]? = some (.bool b) := F 9 rfl
    have HI := Lib.hid hi
    clear H F hi hL
    go_wp2_with fail
    exact hK _ _ (Below.refl _ _) HI.out rfl
  · intro L a wx Q' hL hi H F hK
    try dsimp only at hi
    obtain ⟨_, h51, rfl⟩ := H 4 ⟨.guard, by simp, rfl⟩ _ rfl
    replace h51 := h51 _ rfl
    have h12 : a.tmps[12]? = some (.bool b) := F 12 rfl
    have HI := Lib.hid hi
    clear H F hi hL
    go_wp2_with fail
    exact hK _ _ (Below.refl _ _) HI.out rfl
  · intro L a wx Q' hL hi H F hK
    try dsimp only at hi
    obtain ⟨_, h52, rfl⟩ := H 5 ⟨.data, by simp, rfl⟩ _ rfl
    replace h52 := h52 _ rfl
    obtain ⟨_, h53, rfl⟩ := H 6 ⟨.data, by simp, rfl⟩ _ rfl
    replace h53 := h53 _ rfl
    obtain ⟨_, h51, rfl⟩ := H 4 ⟨.guard, by simp, rfl⟩ _ rfl
    replace h51 := h51 _ rfl
    have HI := Lib.hid hi
    clear H F hi hL
    go_wp2_with fail
    exact hK _ _ (Below.refl _ _) HI.out rfl
  · intro L a wx Q' hL hi H F hK
    try dsimp only at hi
    obtain ⟨_, h51, rfl⟩ := H 4 ⟨.data, by simp, rfl⟩ _ rfl
    replace h51 := h51 _ rfl
    obtain ⟨_, h54, rfl⟩ := H 7 ⟨.data, by simp, rfl⟩ _ rfl
    replace h54 := h54 _ rfl
    have HI := Lib.hid hi
    clear H F hi hL
    go_wp2_with fail
    exact hK _ _ (Below.refl _ _) HI.out rfl
  · intro L a wx Q' hL hi H F hK
    try dsimp only at hi
    obtain ⟨_, h47, rfl⟩ := H 0 ⟨.data, by simp, rfl⟩ _ rfl
    replace h47 := h47 _ rfl
    have h6 : a.tmps[6]? = some (.pointer (some ⟨w.heap.size + 2, 0, none⟩)) := F 6 rfl
    have HI := Lib.hid hi
    clear H F hi
    have HWR := Lib.hid (HI.out.2 hL)
    refine wpList_store_blk rfl 29 _ _ rfl (w.heap.size + 2) 0 (.agg #[.int .i64 t.size, .int .i64 t.seq, .slice ja jm jc, .slice ea em ec, .int .i64 t.h, .int .i64 t.m, .int .i64 t.e, .int .i64 t.r]) (by simp [Act.eval, *]) (by simp [Act.eval, *]) 29 _ HWR.out (by simp [Value.cells]) size29 rfl ?_
    intro w5 S5 W5
    rw [splice_all _ _ (by rfl)] at W5
    exact hK undef w5 trivial ⟨HI.out.1.trans S5, fun h => by simp [upd] at h⟩ W5
  · intro a wx hl L hi hL Q' hK
    try dsimp only at hi
    have HB := Lib.hid hi
    clear hi hL
    obtain ⟨_, rfl, _, rfl, _, rfl, _, rfl, _, rfl, _, rfl, _, rfl, _, rfl, _, rfl, un9, hun9, rfl⟩ := hl
    have HUn9 := Lib.hid hun9
    clear hun9
    simp only [List.setIfInBounds_toArray, List.set_cons_zero, List.set_cons_succ]
    have HS8 := Lib.hid HB.out.1
    have HW8 := Lib.hid HUn9.out
    obtain ⟨w8, hw8⟩ : ∃ w8, w8 = wx := ⟨_, rfl⟩
    rw [← hw8] at HS8 HW8 ⊢
    clear HB HUn9 hw8
    go_wp2_with fail
    have := HN0.out
    have := HN2.out
    have := HB3.out.size
    have e0 : w8.cell? ⟨w.heap.size + 1 + 1, 0, none⟩ = some (.int .i64 t.size) := HW8.out.cell 0
    have e1 : w8.cell? ⟨w.heap.size + 1 + 1, 1, none⟩ = some (.int .i64 t.seq) := HW8.out.cell 1
    have e2 : w8.cell? ⟨w.heap.size + 1 + 1, 2, none⟩ = some (.slice ja jm jc) := HW8.out.cell 2
    have e3 : w8.cell? ⟨w.heap.size + 1 + 1, 3, none⟩ = some (.slice ea em ec) := HW8.out.cell 3
    have e4 : w8.cell? ⟨w.heap.size + 1 + 1, 4, none⟩ = some (.int .i64 t.h) := HW8.out.cell 4
    have e5 : w8.cell? ⟨w.heap.size + 1 + 1, 5, none⟩ = some (.int .i64 t.m) := HW8.out.cell 5
    have e6 : w8.cell? ⟨w.heap.size + 1 + 1, 6, none⟩ = some (.int .i64 t.e) := HW8.out.cell 6
    have e7 : w8.cell? ⟨w.heap.size + 1 + 1, 7, none⟩ = some (.int .i64 t.r) := HW8.out.cell 7
    have hfar := (HFR6.out.far HR06.out (fun e => by have := HKL.out _ e; omega) (fun e => by have := HDL.out _ e; omega))
    refine bodyPost_ret (v := .tuple #[.agg #[.int .i64 t.size, .int .i64 t.seq, .slice ja jm jc, .slice ea em ec, .int .i64 t.h, .int .i64 t.m, .int .i64 t.e, .int .i64 t.r], .bool true]) ?_ rfl ⟨_, _, rfl, ((HM6.out.sto HR06.out (by decide) (by decide) HS8.out (by have := HBB.out; omega)).less fun i hi => ?_), ⟨HS8.out.slice HRF6.out.keys hfar.1, HS8.out.slice HRF6.out.decs hfar.2⟩, (HFR6.out.keep (Below.refl _ _) (by omega)).sto HS8.out HR06.out, HA6.out.trans ⟨Nat.le_of_eq HS8.out.size.symm, fun i hi => HS8.out.block i (fun e => by have := HYL.out i hi; omega)⟩⟩
    · simp [results, Try.results13, go_sem, e0, e1, e2, e3, e4, e5, e6, e7]
    · exact hi.imp (fun h => .inl (.inl h)) id
    

set_option maxHeartbeats 8000000 in
theorem step_insert (Y : Nat → Prop) (w w0 : World) (B cb : Nat) (s : St) (o : Opn) (kv dv : Value) (h : Many (XR kv dv Y) B w0 w [(cb, s)]) (hr : RefAt w kv dv s) (hc : s.Cnt 1000000) (hk : o.Wf) (hm : o.kind % 3 = 1) :
    Calls Try.prog 13 #[.pointer (some ⟨cb, 0, none⟩), .agg #[.int .i64 s.size, .int .i64 s.seq, kv, dv, .int .i64 s.h, .int .i64 s.m, .int .i64 s.e, .int .i64 s.r], .agg #[.int .u8 o.kind, .int .i64 o.src, .int .i64 o.tgt, .int .i64 o.cls, .int .u32 o.allowed, .int .i64 o.seq]] w fun e w' => ∃ kv' dv', e = .returned (.tuple #[.agg #[.int .i64 (s.insert o.key o.dec).size, .int .i64 (s.insert o.key o.dec).seq, kv', dv', .int .i64 (s.insert o.key o.dec).h, .int .i64 (s.insert o.key o.dec).m, .int .i64 (s.insert o.key o.dec).e, .int .i64 (s.insert o.key o.dec).r], .bool true]) ∧ Many (XR kv' dv' Y) B w0 w' [(cb, s.insert o.key o.dec)] ∧ RefAt w' kv' dv' (s.insert o.key o.dec) ∧ Fresh w.heap.size w' kv dv kv' dv' ∧ Aft Y w w' := by
  have hok := h.ok (j := 0) rfl
  obtain ⟨ka, km, kc, rfl⟩ := own_shape hr.keys
  obtain ⟨da, dm, dc, rfl⟩ := own_shape hr.decs
  obtain ⟨t, ht⟩ : ∃ t, s.insert o.key o.dec = t := ⟨_, rfl⟩
  rw [ht]
  have HT := Lib.hid ht
  obtain ⟨x, hx⟩ : ∃ x, s.insErr o.dec = x := ⟨_, rfl⟩
  have HX := Lib.hid hx
  clear hx
  obtain ⟨wo, hwo⟩ : ∃ wo, wo = ((w.alloc (.cells #[.int .i64 s.size, .int .i64 s.seq, .slice ka km kc, .slice da dm dc, .int .i64 s.h, .int .i64 s.m, .int .i64 s.e, .int .i64 s.r] 29)).alloc (.cells #[.int .u8 o.kind, .int .i64 o.src, .int .i64 o.tgt, .int .i64 o.cls, .int .u32 o.allowed, .int .i64 o.seq] 35)).alloc (.cells #[.int .i64 0, .int .i64 0, .slice none 0 0, .slice none 0 0, .int .i64 0, .int .i64 0, .int .i64 0, .int .i64 0] 29) := ⟨_, rfl⟩
  have HS0 := Lib.hid (show Whole wo w.heap.size 29 #[.int .i64 s.size, .int .i64 s.seq, .slice ka km kc, .slice da dm dc, .int .i64 s.h, .int .i64 s.m, .int .i64 s.e, .int .i64 s.r] by rw [hwo]; exact ((Whole.new w 29 #[.int .i64 s.size, .int .i64 s.seq, .slice ka km kc, .slice da dm dc, .int .i64 s.h, .int .i64 s.m, .int .i64 s.e, .int .i64 s.r]).alloc _).alloc _)
  have HO0 := Lib.hid (show Whole wo (w.heap.size + 1) 35 #[.int .u8 o.kind, .int .i64 o.src, .int .i64 o.tgt, .int .i64 o.cls, .int .u32 o.allowed, .int .i64 o.seq] by rw [hwo]; exact (whole_two w _ #[.int .u8 o.kind, .int .i64 o.src, .int .i64 o.tgt, .int .i64 o.cls, .int .u32 o.allowed, .int .i64 o.seq] _).alloc _)
  have HR0 := Lib.hid (show Whole wo (w.heap.size + 2) 29 #[.int .i64 0, .int .i64 0, .slice none 0 0, .slice none 0 0, .int .i64 0, .int .i64 0, .int .i64 0, .int .i64 0] by rw [hwo]; exact whole_three w _ _ #[.int .i64 0, .int .i64 0, .slice none 0 0, .slice none 0 0, .int .i64 0, .int .i64 0, .int .i64 0, .int .i64 0] _)
  have HBO := Lib.hid (show Below w.heap.size w wo by rw [hwo]; exact (((Below.refl _ w).alloc (Nat.le_refl _) _).alloc (by simp) _).alloc (by simp; omega) _)
  have HN0 := Lib.hid (show wo.heap.size = w.heap.size + 3 by rw [hwo]; simp)
  have HYL := Lib.hid (show ∀ i, Y i → i < w.heap.size from fun i hi => h.aside i (.inl hi))
  have HKL := Lib.hid (show ∀ g, (Value.slice ka km kc).ownBlock = some g → g < w.heap.size from fun i hi => h.aside i (.inr (.inl hi)))
  have HDL := Lib.hid (show ∀ g, (Value.slice da dm dc).ownBlock = some g → g < w.heap.size from fun i hi => h.aside i (.inr (.inr hi)))
  have HBB := Lib.hid h.base
  have HM0 := Lib.hid (show Many (fun i => XR (.slice ka km kc) (.slice da dm dc) Y i ∨ (w.heap.size ≤ i ∧ i < w.heap.size + 3)) B w0 wo [(cb, s)] from h.other HBO.out (fun i hi => hi.imp id fun hi => ⟨hi.1, by have := HN0.out; omega⟩))
  have HRF := Lib.hid (hr.under HBO.out)
  have HC := Lib.hid hc
  have HK := Lib.hid hk
  have HOK := Lib.hid hok
  have hk0 := hk.kind.1
  have hk1 := hk.kind.2
  clear h hr hc hk ht hok
  have k0 : wo.cell? ⟨w.heap.size + 1, 0, none⟩ = some (.int .u8 o.kind) := HO0.out.cell 0
  go_enter Try.func13, Try.ntmps13
  go_upto_region 1 with (fail)
  rw [← hwo]
  clear hwo
  go_wp2_with fail
  clear hm k0
  refine wp_region_goods [some 58, some 59, some 60, some 61, some 62, some 63, some 64, some 65, some 66, some 67] [isW (.pointer (some ⟨cb, 0, none⟩)), isW (.pointer (some ⟨w.heap.size + 1, 1, none⟩)), isW (.int .i64 o.src), isW (.pointer (some ⟨w.heap.size + 1, 2, none⟩)), isW (.int .i64 o.tgt), isW (.pointer (some ⟨w.heap.size + 1, 3, none⟩)), isW (.int .i64 o.cls), isW (.agg #[.int .u8 o.kind, .int .i64 o.src, .int .i64 o.tgt, .int .i64 o.cls, .int .u32 o.allowed, .int .i64 o.seq]), isW (.agg #[.int .u32 o.allowed, .int .u32 0, .int .u32 0, .bool false, .int .i64 o.seq]), isW (.int .i64 x)] (fun L w' => Aft (fun i => XR (.slice ka km kc) (.slice da dm dc) Y i ∨ (w.heap.size ≤ i ∧ i < w.heap.size + 3)) wo w' ∧ (L 9 = false → Below wo.heap.size wo w') ∧ (L 9 = true → Many (fun i => XR (.slice ka km kc) (.slice da dm dc) Y i ∨ (w.heap.size ≤ i ∧ i < w.heap.size + 3)) B w0 w' [(cb, t)])) [9] (by kernel_rfl) (by kernel_rfl) (by kernel_rfl) rfl (by decide) rfl rfl (⟨Aft.of_below ((Below.refl _ _).drew) HM0.out.aside, fun _ => (Below.refl _ _).drew, fun h => by cases h⟩) ⟨lastsW_is _, lastsW_is _, lastsW_is _, lastsW_is _, lastsW_is _, lastsW_is _, lastsW_is _, lastsW_is _, lastsW_is _, lastsW_is _, trivial⟩ ⟨?_, ?_, ?_, ?_, ?_, ?_, ?_, ?_, ?_, ?_, ?_⟩
  · intro L a wx Q' hL hi H F hK
    try dsimp only at hi
    have h0 : a.tmps[0]? = some (.pointer (some ⟨cb, 0, none⟩)) := F 0 rfl
    have HI := Lib.hid hi
    clear H F hi hL
    go_wp2_with fail
    exact hK _ _ (Below.refl _ _) HI.out rfl
  · intro L a wx Q' hL hi H F hK
    try dsimp only at hi
    have h5 : a.tmps[5]? = some (.pointer (some ⟨w.heap.size + 1, 0, none⟩)) := F 5 rfl
    have HI := Lib.hid hi
    clear H F hi hL
    go_wp2_with fail
    exact hK _ _ (Below.refl _ _) HI.out rfl
  · intro L a wx Q' hL hi H F hK
    try dsimp only at hi
    obtain ⟨_, h59, rfl⟩ := H 1 ⟨.data, by simp, rfl⟩ _ rfl
    replace h59 := h59 _ rfl
    have HI := Lib.hid hi
    clear H F hi hL
    have kq0 : wx.cell? ⟨w.heap.size + 1, 1, none⟩ = some (.int .i64 o.src) := (HI.out.1.whole HO0.out (.inr ⟨by omega, by omega⟩)).cell 1
    go_wp2_with fail
    exact hK _ _ (Below.refl _ _) HI.out rfl
  · intro L a wx Q' hL hi H F hK
    try dsimp only at hi
    have h5 : a.tmps[5]? = some (.pointer (some ⟨w.heap.size + 1, 0, none⟩)) := F 5 rfl
    have HI := Lib.hid hi
    clear H F hi hL
    go_wp2_with fail
    exact hK _ _ (Below.refl _ _) HI.out rfl
  · intro L a wx Q' hL hi H F hK
    try dsimp only at hi
    obtain ⟨_, h61, rfl⟩ := H 3 ⟨.data, by simp, rfl⟩ _ rfl
    replace h61 := h61 _ rfl
    have HI := Lib.hid hi
    clear H F hi hL
    have kq0 : wx.cell? ⟨w.heap.size + 1, 2, none⟩ = some (.int .i64 o.tgt) := (HI.out.1.whole HO0.out (.inr ⟨by omega, by omega⟩)).cell 2
    go_wp2_with fail
    exact hK _ _ (Below.refl _ _) HI.out rfl
  · intro L a wx Q' hL hi H F hK
    try dsimp only at hi
    have h5 : a.tmps[5]? = some (.pointer (some ⟨w.heap.size + 1, 0, none⟩)) := F 5 rfl
    have HI := Lib.hid hi
    clear H F hi hL
    go_wp2_with fail
    exact hK _ _ (Below.refl _ _) HI.out rfl
  · intro L a wx Q' hL hi H F hK
    try dsimp only at hi
    obtain ⟨_, h63, rfl⟩ := H 5 ⟨.data, by simp, rfl⟩ _ rfl
    replace h63 := h63 _ rfl
    have HI := Lib.hid hi
    clear H F hi hL
    have kq0 : wx.cell? ⟨w.heap.size + 1, 3, none⟩ = some (.int .i64 o.cls) := (HI.out.1.whole HO0.out (.inr ⟨by omega, by omega⟩)).cell 3
    go_wp2_with fail
    exact hK _ _ (Below.refl _ _) HI.out rfl
  · intro L a wx Q' hL hi H F hK
    try dsimp only at hi
    have h5 : a.tmps[5]? = some (.pointer (some ⟨w.heap.size + 1, 0, none⟩)) := F 5 rfl
    have HI := Lib.hid hi
    clear H F hi hL
    have kq0 : wx.cell? ⟨w.heap.size + 1, 0, none⟩ = some (.int .u8 o.kind) := (HI.out.1.whole HO0.out (.inr ⟨by omega, by omega⟩)).cell 0
    have kq1 : wx.cell? ⟨w.heap.size + 1, 1, none⟩ = some (.int .i64 o.src) := (HI.out.1.whole HO0.out (.inr ⟨by omega, by omega⟩)).cell 1
    have kq2 : wx.cell? ⟨w.heap.size + 1, 2, none⟩ = some (.int .i64 o.tgt) := (HI.out.1.whole HO0.out (.inr ⟨by omega, by omega⟩)).cell 2
    have kq3 : wx.cell? ⟨w.heap.size + 1, 3, none⟩ = some (.int .i64 o.cls) := (HI.out.1.whole HO0.out (.inr ⟨by omega, by omega⟩)).cell 3
    have kq4 : wx.cell? ⟨w.heap.size + 1, 4, none⟩ = some (.int .u32 o.allowed) := (HI.out.1.whole HO0.out (.inr ⟨by omega, by omega⟩)).cell 4
    have kq5 : wx.cell? ⟨w.heap.size + 1, 5, none⟩ = some (.int .i64 o.seq) := (HI.out.1.whole HO0.out (.inr ⟨by omega, by omega⟩)).cell 5
    go_wp2_with fail
    exact hK _ _ (Below.refl _ _) HI.out rfl
  · intro L a wx Q' hL hi H F hK
    try dsimp only at hi
    obtain ⟨_, h65, rfl⟩ := H 7 ⟨.data, by simp, rfl⟩ _ rfl
    replace h65 := h65 _ rfl
    have HI := Lib.hid hi
    clear H F hi hL
    go_wp2_with (go_at_call 23; go_must (refine (decision_any o _).mono ?_; rintro e w1 ⟨rfl, hb1⟩))
    exact hK _ _ hb1 ⟨HI.out.1.trans (Aft.of_below hb1 fun i hi => Nat.lt_of_lt_of_le (HM0.out.aside i hi) HI.out.1.size), fun h => (HI.out.2.1 h).trans (hb1.mono HI.out.1.size), fun h => (HI.out.2.2 h).under hb1⟩ rfl
  · intro L a wx Q' hL hi H F hK
    try dsimp only at hi
    obtain ⟨_, h58, rfl⟩ := H 0 ⟨.data, by simp, rfl⟩ _ rfl
    replace h58 := h58 _ rfl
    obtain ⟨_, h60, rfl⟩ := H 2 ⟨.data, by simp, rfl⟩ _ rfl
    replace h60 := h60 _ rfl
    obtain ⟨_, h62, rfl⟩ := H 4 ⟨.data, by simp, rfl⟩ _ rfl
    replace h62 := h62 _ rfl
    obtain ⟨_, h64, rfl⟩ := H 6 ⟨.data, by simp, rfl⟩ _ rfl
    replace h64 := h64 _ rfl
    obtain ⟨_, h66, rfl⟩ := H 8 ⟨.data, by simp, rfl⟩ _ rfl
    replace h66 := h66 _ rfl
    have HI := Lib.hid hi
    clear H F hi
    go_wp2_with (go_at_call 22; go_must (refine (insert_l t o.key o.dec x HX.out HT.out (HM0.out.under (HI.out.2.1 hL)) HC.out HK.out.key).mono ?_; rintro e w1 ⟨rfl, hm1, ha1⟩))
    exact hK _ _ (show KeepAll _ _ _ _ _ _ _ _ from ⟨(fun _ _ _ _ h => h), (fun _ _ _ _ h => h), (fun _ _ _ _ h => h), (fun _ _ _ _ h => h), (fun _ _ _ _ h => h), (fun _ _ _ _ h => h), (fun _ _ _ _ h => h), (fun _ _ _ _ h => h), (fun _ _ _ _ h => h), (fun h => absurd rfl h), trivial⟩) ⟨HI.out.1.trans ha1, fun h => by simp [upd] at h, fun _ => hm1⟩ rfl
  · intro a wx L hl hi hL Q' hK
    try dsimp only at hi
    have HB := Lib.hid hi
    have HL := Lib.hid hL
    clear hi hL
    obtain ⟨_, rfl, _, rfl, _, rfl, _, rfl, _, rfl, _, rfl, _, rfl, _, rfl, _, rfl, _, rfl, rfl⟩ := hl
    simp only [List.setIfInBounds_toArray, List.set_cons_zero, List.set_cons_succ]
    have HM2 := Lib.hid (HB.out.2.2 (HL.out 9 (by decide)))
    have HA2 := Lib.hid HB.out.1
    have HS02 := Lib.hid (HA2.out.whole HS0.out (.inr ⟨by omega, by omega⟩))
    have HO02 := Lib.hid (HA2.out.whole HO0.out (.inr ⟨by omega, by omega⟩))
    have HR02 := Lib.hid (HA2.out.whole HR0.out (.inr ⟨by omega, by omega⟩))
    have HRF2 := Lib.hid (HRF.out.aft HA2.out (fun g e => .inl (.inr (.inl e))) (fun g e => .inl (.inr (.inr e))))
    have HN2 := Lib.hid (show wo.heap.size ≤ wx.heap.size from HA2.out.size)
    clear HB HL HM0 HS0 HO0 HR0 HRF
    go_wp2_with fail
    refine wp_region_goods [some 69, some 70, some 71, some 72, some 73, some 74, some 75, some 76, some 77, some 78, some 68, some 79, some 80, some 14, none] [isW (.agg #[.int .i64 s.size, .int .i64 s.seq, .slice ka km kc, .slice da dm dc, .int .i64 s.h, .int .i64 s.m, .int .i64 s.e, .int .i64 s.r]), isW (.pointer (some ⟨w.heap.size + 1, 1, none⟩)), isW (.int .i64 o.src), isW (.pointer (some ⟨w.heap.size + 1, 2, none⟩)), isW (.int .i64 o.tgt), isW (.pointer (some ⟨w.heap.size + 1, 3, none⟩)), isW (.int .i64 o.cls), isW (.agg #[.int .u8 o.kind, .int .i64 o.src, .int .i64 o.tgt, .int .i64 o.cls, .int .u32 o.allowed, .int .i64 o.seq]), isW (.agg #[.int .u32 o.allowed, .int .u32 0, .int .u32 0, .bool false, .int .i64 o.seq]), fun _ u w' => ∃ kv' dv', u = .tuple #[.agg #[.int .i64 t.size, .int .i64 t.seq, kv', dv', .int .i64 t.h, .int .i64 t.m, .int .i64 t.e, .int .i64 t.r], .int .i64 x] ∧ RefAt w' kv' dv' t ∧ Fresh wx.heap.size w' (.slice ka km kc) (.slice da dm dc) kv' dv', fun _ u w' => ∃ kv' dv', u = .tuple #[.agg #[.int .i64 t.size, .int .i64 t.seq, kv', dv', .int .i64 t.h, .int .i64 t.m, .int .i64 t.e, .int .i64 t.r], .int .i64 x] ∧ RefAt w' kv' dv' t ∧ Fresh wx.heap.size w' (.slice ka km kc) (.slice da dm dc) kv' dv', fun _ u w' => ∃ kv' dv', u = .agg #[.int .i64 t.size, .int .i64 t.seq, kv', dv', .int .i64 t.h, .int .i64 t.m, .int .i64 t.e, .int .i64 t.r] ∧ RefAt w' kv' dv' t ∧ Fresh wx.heap.size w' (.slice ka km kc) (.slice da dm dc) kv' dv', isW (.int .i64 x), fun L u w' => ∃ g, u = .pointer (some ⟨g, 0, none⟩) ∧ wx.heap.size ≤ g ∧ L 13 = true ∧ (L 14 = false → Whole w' g 29 #[.int .i64 0, .int .i64 0, .slice none 0 0, .slice none 0 0, .int .i64 0, .int .i64 0, .int .i64 0, .int .i64 0]) ∧ (L 14 = true → ∃ kv' dv', Whole w' g 29 #[.int .i64 t.size, .int .i64 t.seq, kv', dv', .int .i64 t.h, .int .i64 t.m, .int .i64 t.e, .int .i64 t.r] ∧ RefAt w' kv' dv' t ∧ Fresh wx.heap.size w' (.slice ka km kc) (.slice da dm dc) kv' dv'), fun _ _ _ => True] (fun L w' => Below wx.heap.size wx w' ∧ (L 14 = true → L 13 = true)) [14] (by kernel_rfl) (by kernel_rfl) (by kernel_rfl) rfl (by decide) rfl rfl (⟨(Below.refl _ _).drew, fun h => by cases h⟩) ⟨lastsW_is _, lastsW_is _, lastsW_is _, lastsW_is _, lastsW_is _, lastsW_is _, lastsW_is _, lastsW_is _, lastsW_is _, (fun L i v w' w'' hi ⟨kv', dv', h1, h2, h3⟩ hb => ⟨kv', dv', h1, ⟨h2.keys.keep hb, h2.decs.keep hb⟩, h3.keep hb (Nat.le_refl _)⟩), (fun L i v w' w'' hi ⟨kv', dv', h1, h2, h3⟩ hb => ⟨kv', dv', h1, ⟨h2.keys.keep hb, h2.decs.keep hb⟩, h3.keep hb (Nat.le_refl _)⟩), (fun L i v w' w'' hi ⟨kv', dv', h1, h2, h3⟩ hb => ⟨kv', dv', h1, ⟨h2.keys.keep hb, h2.decs.keep hb⟩, h3.keep hb (Nat.le_refl _)⟩), lastsW_is _, (fun L i v w' w'' hi ⟨g, h1, h2, hl, h3, h4⟩ hb => ⟨g, h1, h2, by simp [upd, hl], fun h => Whole.under hb (h3 (Bool.or_eq_false_iff.1 h).2) (h3 (Bool.or_eq_false_iff.1 h).2).lt, fun h => by obtain ⟨kv', dv', h5, h6, h7⟩ := h4 (by rcases Bool.or_eq_true_iff.1 h with e | e; (have e' : (14 : Nat) = i := by simpa using e); subst e'; simp at hi; exact e); exact ⟨kv', dv', Whole.under hb h5 h5.lt, ⟨h6.keys.keep hb, h6.decs.keep hb⟩, h7.keep hb (Nat.le_refl _)⟩⟩), (fun _ _ _ _ _ _ _ _ => trivial), trivial⟩ ⟨?_, ?_, ?_, ?_, ?_, ?_, ?_, ?_, ?_, ?_, ?_, ?_, ?_, ?_, ?_, ?_⟩
    · intro L a wy Q' hL hi H F hK
      try dsimp only at hi
      have h4 : a.tmps[4]? = some (.pointer (some ⟨w.heap.size, 0, none⟩)) := F 4 rfl
      have HI := Lib.hid hi
      clear H F hi hL
      have kq0 : wy.cell? ⟨w.heap.size, 0, none⟩ = some (.int .i64 s.size) := (Whole.under HI.out.1 HS02.out HS02.out.lt).cell 0
      have kq1 : wy.cell? ⟨w.heap.size, 1, none⟩ = some (.int .i64 s.seq) := (Whole.under HI.out.1 HS02.out HS02.out.lt).cell 1
      have kq2 : wy.cell? ⟨w.heap.size, 2, none⟩ = some (.slice ka km kc) := (Whole.under HI.out.1 HS02.out HS02.out.lt).cell 2
      have kq3 : wy.cell? ⟨w.heap.size, 3, none⟩ = some (.slice da dm dc) := (Whole.under HI.out.1 HS02.out HS02.out.lt).cell 3
      have kq4 : wy.cell? ⟨w.heap.size, 4, none⟩ = some (.int .i64 s.h) := (Whole.under HI.out.1 HS02.out HS02.out.lt).cell 4
      have kq5 : wy.cell? ⟨w.heap.size, 5, none⟩ = some (.int .i64 s.m) := (Whole.under HI.out.1 HS02.out HS02.out.lt).cell 5
      have kq6 : wy.cell? ⟨w.heap.size, 6, none⟩ = some (.int .i64 s.e) := (Whole.under HI.out.1 HS02.out HS02.out.lt).cell 6
      have kq7 : wy.cell? ⟨w.heap.size, 7, none⟩ = some (.int .i64 s.r) := (Whole.under HI.out.1 HS02.out HS02.out.lt).cell 7
      go_wp2_with fail
      exact hK _ _ (Below.refl _ _) HI.out rfl
    · intro L a wy Q' hL hi H F hK
      try dsimp only at hi
      have h5 : a.tmps[5]? = some (.pointer (some ⟨w.heap.size + 1, 0, none⟩)) := F 5 rfl
      have HI := Lib.hid hi
      clear H F hi hL
      go_wp2_with fail
      exact hK _ _ (Below.refl _ _) HI.out rfl
    · intro L a wy Q' hL hi H F hK
      try dsimp only at hi
      obtain ⟨_, h70, rfl⟩ := H 1 ⟨.data, by simp, rfl⟩ _ rfl
      replace h70 := h70 _ rfl
      have HI := Lib.hid hi
      clear H F hi hL
      have kq0 : wy.cell? ⟨w.heap.size + 1, 1, none⟩ = some (.int .i64 o.src) := (Whole.under HI.out.1 HO02.out HO02.out.lt).cell 1
      go_wp2_with fail
      exact hK _ _ (Below.refl _ _) HI.out rfl
    · intro L a wy Q' hL hi H F hK
      try dsimp only at hi
      have h5 : a.tmps[5]? = some (.pointer (some ⟨w.heap.size + 1, 0, none⟩)) := F 5 rfl
      have HI := Lib.hid hi
      clear H F hi hL
      go_wp2_with fail
      exact hK _ _ (Below.refl _ _) HI.out rfl
    · intro L a wy Q' hL hi H F hK
      try dsimp only at hi
      obtain ⟨_, h72, rfl⟩ := H 3 ⟨.data, by simp, rfl⟩ _ rfl
      replace h72 := h72 _ rfl
      have HI := Lib.hid hi
      clear H F hi hL
      have kq0 : wy.cell? ⟨w.heap.size + 1, 2, none⟩ = some (.int .i64 o.tgt) := (Whole.under HI.out.1 HO02.out HO02.out.lt).cell 2
      go_wp2_with fail
      exact hK _ _ (Below.refl _ _) HI.out rfl
    · intro L a wy Q' hL hi H F hK
      try dsimp only at hi
      have h5 : a.tmps[5]? = some (.pointer (some ⟨w.heap.size + 1, 0, none⟩)) := F 5 rfl
      have HI := Lib.hid hi
      clear H F hi hL
      go_wp2_with fail
      exact hK _ _ (Below.refl _ _) HI.out rfl
    · intro L a wy Q' hL hi H F hK
      try dsimp only at hi
      obtain ⟨_, h74, rfl⟩ := H 5 ⟨.data, by simp, rfl⟩ _ rfl
      replace h74 := h74 _ rfl
      have HI := Lib.hid hi
      clear H F hi hL
      have kq0 : wy.cell? ⟨w.heap.size + 1, 3, none⟩ = some (.int .i64 o.cls) := (Whole.under HI.out.1 HO02.out HO02.out.lt).cell 3
      go_wp2_with fail
      exact hK _ _ (Below.refl _ _) HI.out rfl
    · intro L a wy Q' hL hi H F hK
      try dsimp only at hi
      have h5 : a.tmps[5]? = some (.pointer (some ⟨w.heap.size + 1, 0, none⟩)) := F 5 rfl
      have HI := Lib.hid hi
      clear H F hi hL
      have kq0 : wy.cell? ⟨w.heap.size + 1, 0, none⟩ = some (.int .u8 o.kind) := (Whole.under HI.out.1 HO02.out HO02.out.lt).cell 0
      have kq1 : wy.cell? ⟨w.heap.size + 1, 1, none⟩ = some (.int .i64 o.src) := (Whole.under HI.out.1 HO02.out HO02.out.lt).cell 1
      have kq2 : wy.cell? ⟨w.heap.size + 1, 2, none⟩ = some (.int .i64 o.tgt) := (Whole.under HI.out.1 HO02.out HO02.out.lt).cell 2
      have kq3 : wy.cell? ⟨w.heap.size + 1, 3, none⟩ = some (.int .i64 o.cls) := (Whole.under HI.out.1 HO02.out HO02.out.lt).cell 3
      have kq4 : wy.cell? ⟨w.heap.size + 1, 4, none⟩ = some (.int .u32 o.allowed) := (Whole.under HI.out.1 HO02.out HO02.out.lt).cell 4
      have kq5 : wy.cell? ⟨w.heap.size + 1, 5, none⟩ = some (.int .i64 o.seq) := (Whole.under HI.out.1 HO02.out HO02.out.lt).cell 5
      go_wp2_with fail
      exact hK _ _ (Below.refl _ _) HI.out rfl
    · intro L a wy Q' hL hi H F hK
      try dsimp only at hi
      obtain ⟨_, h76, rfl⟩ := H 7 ⟨.data, by simp, rfl⟩ _ rfl
      replace h76 := h76 _ rfl
      have HI := Lib.hid hi
      clear H F hi hL
      go_wp2_with (go_at_call 23; go_must (refine (decision_any o _).mono ?_; rintro e w1 ⟨rfl, hb1⟩))
      exact hK _ _ hb1 ⟨HI.out.1.trans (hb1.mono HI.out.1.size), HI.out.2⟩ rfl
    · intro L a wy Q' hL hi H F hK
      try dsimp only at hi
      obtain ⟨_, h69, rfl⟩ := H 0 ⟨.data, by simp, rfl⟩ _ rfl
      replace h69 := h69 _ rfl
      obtain ⟨_, h71, rfl⟩ := H 2 ⟨.data, by simp, rfl⟩ _ rfl
      replace h71 := h71 _ rfl
      obtain ⟨_, h73, rfl⟩ := H 4 ⟨.data, by simp, rfl⟩ _ rfl
      replace h73 := h73 _ rfl
      obtain ⟨_, h75, rfl⟩ := H 6 ⟨.data, by simp, rfl⟩ _ rfl
      replace h75 := h75 _ rfl
      obtain ⟨_, h77, rfl⟩ := H 8 ⟨.data, by simp, rfl⟩ _ rfl
      replace h77 := h77 _ rfl
      have HI := Lib.hid hi
      clear H F hi hL
      have HRX := Lib.hid (show RefAt wy _ _ s from ⟨HRF2.out.keys.keep HI.out.1, HRF2.out.decs.keep HI.out.1⟩)
      go_wp2_with (go_at_call 28; go_must (refine (refInsert_l wy s t _ _ o.key o.dec x HX.out HT.out HRX.out HOK.out HC.out).mono ?_; rintro e w1 ⟨kv', dv', rfl, hr, hf, hb1⟩))
      exact hK _ _ hb1 ⟨HI.out.1.trans (hb1.mono HI.out.1.size), HI.out.2⟩ ⟨kv', dv', rfl, hr, hf.keep (Below.refl _ _) HI.out.1.size⟩
    · intro L a wy Q' hL hi H F hK
      try dsimp only at hi
      obtain ⟨v78, h78, hv78⟩ := H 9 ⟨.data, by simp, rfl⟩ _ rfl
      replace h78 := h78 _ rfl
      have HV78 := Lib.hid hv78
      clear hv78
      have HI := Lib.hid hi
      clear H F hi hL
      obtain ⟨kv', dv', rfl, hr, hf⟩ := HV78.out
      go_wp2_with fail
      exact hK _ _ (Below.refl _ _) HI.out ⟨kv', dv', rfl, hr, hf⟩
    · intro L a wy Q' hL hi H F hK
      try dsimp only at hi
      obtain ⟨v68, h68, hv68⟩ := H 10 ⟨.data, by simp, rfl⟩ _ rfl
      replace h68 := h68 _ rfl
      have HV68 := Lib.hid hv68
      clear hv68
      have HI := Lib.hid hi
      clear H F hi hL
      obtain ⟨kv', dv', rfl, hr, hf⟩ := HV68.out
      go_wp2_with fail
      exact hK _ _ (Below.refl _ _) HI.out ⟨kv', dv', rfl, hr, hf⟩
    · intro L a wy Q' hL hi H F hK
      try dsimp only at hi
      obtain ⟨v68, h68, hv68⟩ := H 10 ⟨.data, by simp, rfl⟩ _ rfl
      replace h68 := h68 _ rfl
      have HV68 := Lib.hid hv68
      clear hv68
      have HI := Lib.hid hi
      clear H F hi hL
      obtain ⟨kv', dv', rfl, -, -⟩ := HV68.out
      go_wp2_with fail
      exact hK _ _ (Below.refl _ _) HI.out rfl
    · intro L a wy Q' hL hi H F hK
      try dsimp only at hi
      have HI := Lib.hid hi
      clear H F hi
      go_wp2_with fail
      have hn := Whole.new wy 29 #[.int .i64 0, .int .i64 0, .slice none 0 0, .slice none 0 0, .int .i64 0, .int .i64 0, .int .i64 0, .int .i64 0]
      have hb := (Below.refl wy.heap.size wy).alloc (Nat.le_refl _) (.cells #[.int .i64 0, .int .i64 0, .slice none 0 0, .slice none 0 0, .int .i64 0, .int .i64 0, .int .i64 0, .int .i64 0] 29)
      exact hK _ _ hb ⟨HI.out.1.trans (hb.mono HI.out.1.size), fun h => by simp [upd]⟩ ⟨wy.heap.size, rfl, HI.out.1.size, by simp [upd], fun _ => hn, fun h => by rw [upd_ne' _ (show (14 : Nat) ≠ 13 by decide)] at h; rw [HI.out.2 h] at hL; cases hL⟩
    · intro L a wy Q' hL hi H F hK
      try dsimp only at hi
      obtain ⟨v79, h79, hv79⟩ := H 11 ⟨.data, by simp, rfl⟩ _ rfl
      replace h79 := h79 _ rfl
      have HV79 := Lib.hid hv79
      clear hv79
      obtain ⟨v14, h14, hv14⟩ := H 13 ⟨.data, by simp, rfl⟩ _ rfl
      replace h14 := h14 _ rfl
      have HV14 := Lib.hid hv14
      clear hv14
      have HI := Lib.hid hi
      clear H F hi
      obtain ⟨g, rfl, hg, hl13, hz, -⟩ := HV14.out
      obtain ⟨kv', dv', rfl, hr, hf⟩ := HV79.out
      obtain ⟨ja, jm, jc, rfl⟩ := own_shape hr.keys
      obtain ⟨ea, em, ec, rfl⟩ := own_shape hr.decs
      have HZG := Lib.hid (hz hL)
      have HKG := Lib.hid (show (Value.slice ka km kc).ownBlock ≠ some g from fun e => by have := HKL.out _ e; have := HN2.out; have := HN0.out; omega)
      have HDG := Lib.hid (show (Value.slice da dm dc).ownBlock ≠ some g from fun e => by have := HDL.out _ e; have := HN2.out; have := HN0.out; omega)
      have HGG := Lib.hid hg
      have HL13 := Lib.hid hl13
      have HRG := Lib.hid hr
      have HFG := Lib.hid hf
      clear HV14 HV79 hz hr hf hg hl13
      refine wpList_store_blk rfl 29 _ _ rfl g 0 (.agg #[.int .i64 t.size, .int .i64 t.seq, .slice ja jm jc, .slice ea em ec, .int .i64 t.h, .int .i64 t.m, .int .i64 t.e, .int .i64 t.r]) (by simp [Act.eval, *]) (by simp [Act.eval, *]) 29 _ HZG.out (by simp [Value.cells]) size29 rfl ?_
      intro w5 S5 W5
      rw [splice_all _ _ (by rfl)] at W5
      exact hK undef w5 (show KeepAll _ _ _ _ _ _ _ _ from ⟨(fun _ _ _ _ h => h), (fun _ _ _ _ h => h), (fun _ _ _ _ h => h), (fun _ _ _ _ h => h), (fun _ _ _ _ h => h), (fun _ _ _ _ h => h), (fun _ _ _ _ h => h), (fun _ _ _ _ h => h), (fun _ _ _ _ h => h), (fun _ _ v _ ⟨kv', dv', h1, h2, h3⟩ => have hfa := h3.far HZG.out HKG.out HDG.out; ⟨kv', dv', h1, ⟨S5.slice h2.keys hfa.1, S5.slice h2.decs hfa.2⟩, h3.sto S5 HZG.out⟩), (fun _ _ v _ ⟨kv', dv', h1, h2, h3⟩ => have hfa := h3.far HZG.out HKG.out HDG.out; ⟨kv', dv', h1, ⟨S5.slice h2.keys hfa.1, S5.slice h2.decs hfa.2⟩, h3.sto S5 HZG.out⟩), (fun _ _ v _ ⟨kv', dv', h1, h2, h3⟩ => have hfa := h3.far HZG.out HKG.out HDG.out; ⟨kv', dv', h1, ⟨S5.slice h2.keys hfa.1, S5.slice h2.decs hfa.2⟩, h3.sto S5 HZG.out⟩), (fun _ _ _ _ h => h), (fun _ _ v hv ⟨g', h1, h2, hl, h3, h4⟩ => by have e := Option.some.inj ((hv 14 rfl).symm.trans h14); subst e; cases h1; have hfa := HFG.out.far HZG.out HKG.out HDG.out; exact ⟨_, rfl, h2, by simp [upd, hl], fun h => by simp [upd] at h, fun _ => ⟨_, _, W5, ⟨S5.slice HRG.out.keys hfa.1, S5.slice HRG.out.decs hfa.2⟩, HFG.out.sto S5 HZG.out⟩⟩), (fun h => absurd rfl h), trivial⟩) ⟨HI.out.1.trans (S5.below HGG.out), fun _ => by rw [upd_ne' _ (show (13 : Nat) ≠ 14 by decide)]; exact HL13.out⟩ trivial
    · intro a wy L hl hi hL Q' hK
      try dsimp only at hi
      have HB := Lib.hid hi
      have HL := Lib.hid hL
      clear hi hL
      obtain ⟨_, rfl, _, rfl, _, rfl, _, rfl, _, rfl, _, rfl, _, rfl, _, rfl, _, rfl, u78, hu78, u68, hu68, u79, hu79, _, rfl, u14, hu14, un14, hun14, rfl⟩ := hl
      have HU78 := Lib.hid hu78
      clear hu78
      have HU68 := Lib.hid hu68
      clear hu68
      have HU79 := Lib.hid hu79
      clear hu79
      have HU14 := Lib.hid hu14
      clear hu14
      have HUn14 := Lib.hid hun14
      clear hun14
      simp only [List.setIfInBounds_toArray, List.set_cons_zero, List.set_cons_succ]
      obtain ⟨g, rfl, hg, -, -, h4⟩ := HU14.out
      obtain ⟨kv', dv', hW, hR, hF⟩ := h4 (HL.out 14 (by decide))
      obtain ⟨ja, jm, jc, rfl⟩ := own_shape hR.keys
      obtain ⟨ea, em, ec, rfl⟩ := own_shape hR.decs
      have HG := Lib.hid hW
      have HRFy := Lib.hid hR
      have HFRy := Lib.hid hF
      have HBY := Lib.hid HB.out.1
      have HR0y := Lib.hid (Whole.under HBY.out HR02.out HR02.out.lt)
      have HMy := Lib.hid (HM2.out.other (Y := XR (.slice ja jm jc) (.slice ea em ec) (fun i => XR (.slice ka km kc) (.slice da dm dc) Y i ∨ (w.heap.size ≤ i ∧ i < w.heap.size + 3))) HBY.out fun i hi => by
        rcases hi with h1 | h1 | h1
        · exact .inl h1
        · rcases hF with ⟨e1, e2⟩ | h2
          · exact .inl (.inl (.inr (.inl (by rw [e1] at h1; exact h1))))
          · exact .inr (h2.k i h1)
        · rcases hF with ⟨e1, e2⟩ | h2
          · exact .inl (.inl (.inr (.inr (by rw [e2] at h1; exact h1))))
          · exact .inr (h2.d i h1))
      have HAy := Lib.hid (show Aft Y w wy from ((Aft.of_below HBO.out HYL.out).trans (HA2.out.less fun i hi => .inl (.inl hi))).trans (Aft.of_below HBY.out fun i hi => by have := HYL.out i hi; have := HN0.out; have := HN2.out; omega))
      clear HU14 HU78 HU68 HU79 HUn14 HL HB h4 hW hR hF HM2 HS02 HO02 HR02 HRF2
      go_wp2_with (first | (have hZ := HG; clear hZ; refine wpList_load_row rfl 29 _ rfl (g) rfl 29 _ (0, 0) _ (HG.out) Try.underlying29 rfl size29 ?_) | (have hZ := HR0y; clear hZ; refine wpList_store_blk rfl 29 _ _ rfl (w.heap.size + 2) 0 (.agg #[.int .i64 t.size, .int .i64 t.seq, .slice ja jm jc, .slice ea em ec, .int .i64 t.h, .int .i64 t.m, .int .i64 t.e, .int .i64 t.r]) rfl rfl 29 _ (HR0y.out) (by simp [Value.cells]) size29 rfl ?_; intro w8 S8 W8; rw [splice_all _ _ (by rfl)] at W8; have HS8 := Lib.hid S8; have HW8 := Lib.hid (show Whole w8 (w.heap.size + 2) 29 #[.int .i64 t.size, .int .i64 t.seq, .slice ja jm jc, .slice ea em ec, .int .i64 t.h, .int .i64 t.m, .int .i64 t.e, .int .i64 t.r] from W8); clear S8 W8; clear HG))
      have := HN0.out
      have := HN2.out
      have e0 : w8.cell? ⟨w.heap.size + 1 + 1, 0, none⟩ = some (.int .i64 t.size) := HW8.out.cell 0
      have e1 : w8.cell? ⟨w.heap.size + 1 + 1, 1, none⟩ = some (.int .i64 t.seq) := HW8.out.cell 1
      have e2 : w8.cell? ⟨w.heap.size + 1 + 1, 2, none⟩ = some (.slice ja jm jc) := HW8.out.cell 2
      have e3 : w8.cell? ⟨w.heap.size + 1 + 1, 3, none⟩ = some (.slice ea em ec) := HW8.out.cell 3
      have e4 : w8.cell? ⟨w.heap.size + 1 + 1, 4, none⟩ = some (.int .i64 t.h) := HW8.out.cell 4
      have e5 : w8.cell? ⟨w.heap.size + 1 + 1, 5, none⟩ = some (.int .i64 t.m) := HW8.out.cell 5
      have e6 : w8.cell? ⟨w.heap.size + 1 + 1, 6, none⟩ = some (.int .i64 t.e) := HW8.out.cell 6
      have e7 : w8.cell? ⟨w.heap.size + 1 + 1, 7, none⟩ = some (.int .i64 t.r) := HW8.out.cell 7
      have hfar := (HFRy.out.far HR0y.out (fun e => by have := HKL.out _ e; omega) (fun e => by have := HDL.out _ e; omega))
      refine bodyPost_ret (v := .tuple #[.agg #[.int .i64 t.size, .int .i64 t.seq, .slice ja jm jc, .slice ea em ec, .int .i64 t.h, .int .i64 t.m, .int .i64 t.e, .int .i64 t.r], .bool true]) ?_ rfl ⟨_, _, rfl, ((HMy.out.sto HR0y.out (by decide) (by decide) HS8.out (by have := HBB.out; omega)).less fun i hi => ?_), ⟨HS8.out.slice HRFy.out.keys hfar.1, HS8.out.slice HRFy.out.decs hfar.2⟩, (HFRy.out.keep (Below.refl _ _) (by omega)).sto HS8.out HR0y.out, HAy.out.trans ⟨Nat.le_of_eq HS8.out.size.symm, fun i hi => HS8.out.block i (fun e => by have := HYL.out i hi; omega)⟩⟩
      · simp [results, Try.results13, go_sem, e0, e1, e2, e3, e4, e5, e6, e7]
      · exact hi.imp (fun h => .inl (.inl h)) id
      
    

set_option maxHeartbeats 8000000 in
theorem step_reset (Y : Nat → Prop) (w w0 : World) (B cb : Nat) (s : St) (o : Opn) (kv dv : Value) (h : Many (XR kv dv Y) B w0 w [(cb, s)]) (hr : RefAt w kv dv s) (hc : s.Cnt 1000000) (hk : o.Wf) (hm : o.kind % 3 = 2) :
    Calls Try.prog 13 #[.pointer (some ⟨cb, 0, none⟩), .agg #[.int .i64 s.size, .int .i64 s.seq, kv, dv, .int .i64 s.h, .int .i64 s.m, .int .i64 s.e, .int .i64 s.r], .agg #[.int .u8 o.kind, .int .i64 o.src, .int .i64 o.tgt, .int .i64 o.cls, .int .u32 o.allowed, .int .i64 o.seq]] w fun e w' => ∃ kv' dv', e = .returned (.tuple #[.agg #[.int .i64 (s.resets o.seq).size, .int .i64 (s.resets o.seq).seq, kv', dv', .int .i64 (s.resets o.seq).h, .int .i64 (s.resets o.seq).m, .int .i64 (s.resets o.seq).e, .int .i64 (s.resets o.seq).r], .bool true]) ∧ Many (XR kv' dv' Y) B w0 w' [(cb, s.resets o.seq)] ∧ RefAt w' kv' dv' (s.resets o.seq) ∧ Fresh w.heap.size w' kv dv kv' dv' ∧ Aft Y w w' := by
  have hok := h.ok (j := 0) rfl
  obtain ⟨ka, km, kc, rfl⟩ := own_shape hr.keys
  obtain ⟨da, dm, dc, rfl⟩ := own_shape hr.decs
  obtain ⟨t, ht⟩ : ∃ t, s.resets o.seq = t := ⟨_, rfl⟩
  rw [ht]
  have HT := Lib.hid ht
  obtain ⟨x, hx⟩ : ∃ x, s.resErr o.seq = x := ⟨_, rfl⟩
  have HX := Lib.hid hx
  clear hx
  obtain ⟨wo, hwo⟩ : ∃ wo, wo = ((w.alloc (.cells #[.int .i64 s.size, .int .i64 s.seq, .slice ka km kc, .slice da dm dc, .int .i64 s.h, .int .i64 s.m, .int .i64 s.e, .int .i64 s.r] 29)).alloc (.cells #[.int .u8 o.kind, .int .i64 o.src, .int .i64 o.tgt, .int .i64 o.cls, .int .u32 o.allowed, .int .i64 o.seq] 35)).alloc (.cells #[.int .i64 0, .int .i64 0, .slice none 0 0, .slice none 0 0, .int .i64 0, .int .i64 0, .int .i64 0, .int .i64 0] 29) := ⟨_, rfl⟩
  have HS0 := Lib.hid (show Whole wo w.heap.size 29 #[.int .i64 s.size, .int .i64 s.seq, .slice ka km kc, .slice da dm dc, .int .i64 s.h, .int .i64 s.m, .int .i64 s.e, .int .i64 s.r] by rw [hwo]; exact ((Whole.new w 29 #[.int .i64 s.size, .int .i64 s.seq, .slice ka km kc, .slice da dm dc, .int .i64 s.h, .int .i64 s.m, .int .i64 s.e, .int .i64 s.r]).alloc _).alloc _)
  have HO0 := Lib.hid (show Whole wo (w.heap.size + 1) 35 #[.int .u8 o.kind, .int .i64 o.src, .int .i64 o.tgt, .int .i64 o.cls, .int .u32 o.allowed, .int .i64 o.seq] by rw [hwo]; exact (whole_two w _ #[.int .u8 o.kind, .int .i64 o.src, .int .i64 o.tgt, .int .i64 o.cls, .int .u32 o.allowed, .int .i64 o.seq] _).alloc _)
  have HR0 := Lib.hid (show Whole wo (w.heap.size + 2) 29 #[.int .i64 0, .int .i64 0, .slice none 0 0, .slice none 0 0, .int .i64 0, .int .i64 0, .int .i64 0, .int .i64 0] by rw [hwo]; exact whole_three w _ _ #[.int .i64 0, .int .i64 0, .slice none 0 0, .slice none 0 0, .int .i64 0, .int .i64 0, .int .i64 0, .int .i64 0] _)
  have HBO := Lib.hid (show Below w.heap.size w wo by rw [hwo]; exact (((Below.refl _ w).alloc (Nat.le_refl _) _).alloc (by simp) _).alloc (by simp; omega) _)
  have HN0 := Lib.hid (show wo.heap.size = w.heap.size + 3 by rw [hwo]; simp)
  have HYL := Lib.hid (show ∀ i, Y i → i < w.heap.size from fun i hi => h.aside i (.inl hi))
  have HKL := Lib.hid (show ∀ g, (Value.slice ka km kc).ownBlock = some g → g < w.heap.size from fun i hi => h.aside i (.inr (.inl hi)))
  have HDL := Lib.hid (show ∀ g, (Value.slice da dm dc).ownBlock = some g → g < w.heap.size from fun i hi => h.aside i (.inr (.inr hi)))
  have HBB := Lib.hid h.base
  have HM0 := Lib.hid (show Many (fun i => XR (.slice ka km kc) (.slice da dm dc) Y i ∨ (w.heap.size ≤ i ∧ i < w.heap.size + 3)) B w0 wo [(cb, s)] from h.other HBO.out (fun i hi => hi.imp id fun hi => ⟨hi.1, by have := HN0.out; omega⟩))
  have HRF := Lib.hid (hr.under HBO.out)
  have HC := Lib.hid hc
  have HK := Lib.hid hk
  have HOK := Lib.hid hok
  have hk0 := hk.kind.1
  have hk1 := hk.kind.2
  clear h hr hc hk ht hok
  have k0 : wo.cell? ⟨w.heap.size + 1, 0, none⟩ = some (.int .u8 o.kind) := HO0.out.cell 0
  have k5 : wo.cell? ⟨w.heap.size + 1, 5, none⟩ = some (.int .i64 o.seq) := HO0.out.cell 5
  go_enter Try.func13, Try.ntmps13
  go_upto_region 1 with (fail)
  rw [← hwo]
  clear hwo
  go_wp2_with (first | (go_at_call 26; go_must (refine (reset_l t o.seq x HX.out HT.out HM0.out HC.out).mono ?_; rintro e w2 ⟨rfl, hm2, ha2⟩; have HM2 := Lib.hid hm2; have HA2 := Lib.hid ha2; have HS02 := Lib.hid (ha2.whole HS0.out (.inr ⟨by omega, by omega⟩)); have HO02 := Lib.hid (ha2.whole HO0.out (.inr ⟨by omega, by omega⟩)); have HR02 := Lib.hid (ha2.whole HR0.out (.inr ⟨by omega, by omega⟩)); have HRF2 := Lib.hid (HRF.out.aft ha2 (fun g e => .inl (.inr (.inl e))) (fun g e => .inl (.inr (.inr e)))); have j5 : w2.cell? ⟨w.heap.size + 1, 5, none⟩ = some (.int .i64 o.seq) := HO02.out.cell 5; clear hm2 ha2 HM0 HS0 HO0 HR0 HRF k0 k5; have HN2 := Lib.hid (show wo.heap.size ≤ w2.heap.size from HA2.out.size))) | (have hZ := HS02; clear hZ; refine wpList_load_row rfl 29 _ rfl (w.heap.size) rfl 29 _ (0, 0) _ (HS02.out) Try.underlying29 rfl size29 ?_) | (go_at_call 29; go_must (refine (refReset_l w2 s t _ _ o.seq x HX.out HT.out HRF2.out HC.out).mono ?_; rintro e w4 ⟨kv', dv', rfl, hr4, hf4, hb4⟩; obtain ⟨ja, jm, jc, rfl⟩ := own_shape hr4.keys; obtain ⟨ea, em, ec, rfl⟩ := own_shape hr4.decs; have HRF4 := Lib.hid hr4; have HFR4 := Lib.hid hf4; have HB4 := Lib.hid hb4; have HM4 := Lib.hid (HM2.out.fresh (fun g e => .inl (.inr (.inl e))) (fun g e => .inl (.inr (.inr e))) hf4 hb4); have HR04 := Lib.hid (Whole.under hb4 HR02.out HR02.out.lt); clear hr4 hf4 hb4 HS02 HO02 HR02 HM2 HRF2 j5)) | (refine wpList_store_blk rfl 29 _ _ rfl (w4.heap.size) 0 (.agg #[.int .i64 t.size, .int .i64 t.seq, .slice ja jm jc, .slice ea em ec, .int .i64 t.h, .int .i64 t.m, .int .i64 t.e, .int .i64 t.r]) rfl rfl 29 _ (Whole.new w4 29 #[.int .i64 0, .int .i64 0, .slice none 0 0, .slice none 0 0, .int .i64 0, .int .i64 0, .int .i64 0, .int .i64 0]) (by simp [Value.cells]) size29 rfl ?_; intro w5 S5 W5; rw [splice_all _ _ (by rfl)] at W5; have HS5 := Lib.hid S5; have HW5 := Lib.hid (show Whole w5 (w4.heap.size) 29 #[.int .i64 t.size, .int .i64 t.seq, .slice ja jm jc, .slice ea em ec, .int .i64 t.h, .int .i64 t.m, .int .i64 t.e, .int .i64 t.r] from W5); clear S5 W5; have HB5 := Lib.hid (show Below w4.heap.size w4 w5 from ((Below.refl _ w4).alloc (Nat.le_refl _) _).trans (HS5.out.below (Nat.le_refl _))); have HM5 := Lib.hid (HM4.out.under HB5.out); have HR05 := Lib.hid (Whole.under HB5.out HR04.out HR04.out.lt); have HRF5 := Lib.hid (show RefAt w5 _ _ t from ⟨HRF4.out.keys.keep HB5.out, HRF4.out.decs.keep HB5.out⟩); have HFR5 := Lib.hid (HFR4.out.keep HB5.out (Nat.le_refl _)); have HL5 := HW5; clear HS5 HR04 HRF4 HFR4 HM4) | (have hZ := HL5; clear hZ; refine wpList_load_row rfl 29 _ rfl (w4.heap.size) rfl 29 _ (0, 0) _ (HL5.out) Try.underlying29 rfl size29 ?_) | (have hZ := HR05; clear hZ; refine wpList_store_blk rfl 29 _ _ rfl (w.heap.size + 2) 0 (.agg #[.int .i64 t.size, .int .i64 t.seq, .slice ja jm jc, .slice ea em ec, .int .i64 t.h, .int .i64 t.m, .int .i64 t.e, .int .i64 t.r]) rfl rfl 29 _ (HR05.out) (by simp [Value.cells]) size29 rfl ?_; intro w8 S8 W8; rw [splice_all _ _ (by rfl)] at W8; have HS8 := Lib.hid S8; have HW8 := Lib.hid (show Whole w8 (w.heap.size + 2) 29 #[.int .i64 t.size, .int .i64 t.seq, .slice ja jm jc, .slice ea em ec, .int .i64 t.h, .int .i64 t.m, .int .i64 t.e, .int .i64 t.r] from W8); clear S8 W8; clear HL5))
  have := HN0.out
  have := HN2.out
  have HA5 := Lib.hid (show Aft Y w w5 from ((Aft.of_below HBO.out HYL.out).trans (HA2.out.less fun i hi => .inl (.inl hi))).trans ((Aft.of_below HB4.out fun i hi => by have := HYL.out i hi; omega).trans (Aft.of_below HB5.out fun i hi => by have := HYL.out i hi; have := HB4.out.size; omega)))
  have e0 : w8.cell? ⟨w.heap.size + 1 + 1, 0, none⟩ = some (.int .i64 t.size) := HW8.out.cell 0
  have e1 : w8.cell? ⟨w.heap.size + 1 + 1, 1, none⟩ = some (.int .i64 t.seq) := HW8.out.cell 1
  have e2 : w8.cell? ⟨w.heap.size + 1 + 1, 2, none⟩ = some (.slice ja jm jc) := HW8.out.cell 2
  have e3 : w8.cell? ⟨w.heap.size + 1 + 1, 3, none⟩ = some (.slice ea em ec) := HW8.out.cell 3
  have e4 : w8.cell? ⟨w.heap.size + 1 + 1, 4, none⟩ = some (.int .i64 t.h) := HW8.out.cell 4
  have e5 : w8.cell? ⟨w.heap.size + 1 + 1, 5, none⟩ = some (.int .i64 t.m) := HW8.out.cell 5
  have e6 : w8.cell? ⟨w.heap.size + 1 + 1, 6, none⟩ = some (.int .i64 t.e) := HW8.out.cell 6
  have e7 : w8.cell? ⟨w.heap.size + 1 + 1, 7, none⟩ = some (.int .i64 t.r) := HW8.out.cell 7
  have hfar := (HFR5.out.far HR05.out (fun e => by have := HKL.out _ e; omega) (fun e => by have := HDL.out _ e; omega))
  refine bodyPost_ret (v := .tuple #[.agg #[.int .i64 t.size, .int .i64 t.seq, .slice ja jm jc, .slice ea em ec, .int .i64 t.h, .int .i64 t.m, .int .i64 t.e, .int .i64 t.r], .bool true]) ?_ rfl ⟨_, _, rfl, ((HM5.out.sto HR05.out (by decide) (by decide) HS8.out (by have := HBB.out; omega)).less fun i hi => ?_), ⟨HS8.out.slice HRF5.out.keys hfar.1, HS8.out.slice HRF5.out.decs hfar.2⟩, (HFR5.out.keep (Below.refl _ _) (by omega)).sto HS8.out HR05.out, HA5.out.trans ⟨Nat.le_of_eq HS8.out.size.symm, fun i hi => HS8.out.block i (fun e => by have := HYL.out i hi; omega)⟩⟩
  · simp [results, Try.results13, go_sem, e0, e1, e2, e3, e4, e5, e6, e7]
  · exact hi.imp (fun h => .inl (.inl h)) id

end Go.Proofs.Ytcdhjcjdphnleaa
