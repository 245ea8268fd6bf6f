import Derived.Test.YtcdhjcjdphnleaaZF
namespace Go.Proofs.Ytcdhjcjdphnleaa
open Go Go.WideMaps Go.RowKit

theorem TyRow.keep {w w' : World} {t : TypeId} {v : Value} (h : TyRow w t v) (hb : Below w.heap.size w w') : TyRow w' t v := fun g e => let ⟨cs, hc⟩ := h g e; ⟨cs, Whole.under hb hc hc.lt⟩
theorem TyRow.sto {w w' : World} {t : TypeId} {v : Value} {b : Nat} (h : TyRow w t v) (hs : Sto w w' b) (hne : v.ownBlock ≠ some b) : TyRow w' t v := fun g e => let ⟨cs, hc⟩ := h g e; ⟨cs, hs.whole hc (fun e' => hne (e' ▸ e))⟩
theorem TyRow.far {w : World} {t t' : TypeId} {v : Value} {b : Nat} {cs : Array Value} (h : TyRow w t v) (hw : Whole w b t' cs) (hne : t ≠ t') : v.ownBlock ≠ some b := fun e => by
  obtain ⟨cs', hc⟩ := h b e
  have := Option.some.inj (hc.symm.trans hw)
  injection this with h1 h2
  exact hne h2
theorem RefAt.of_same {w : World} {kv dv : Value} {s : St} {h m e : Int} (H : RefAt w kv dv s) : RefAt w kv dv {s with h := h, m := m, e := e} := ⟨H.keys, H.decs⟩
theorem RefAt.some {w : World} {kv dv : Value} {s : St} {q : Nat} (h : RefAt w kv dv s) (hq : q < s.D.length) : ∃ kb ko kc db do' dc, kv = .slice (some ⟨kb, ko, none⟩) s.D.length kc ∧ dv = .slice (some ⟨db, do', none⟩) s.D.length dc ∧ s.D.length ≤ kc ∧ s.D.length ≤ dc ∧ (∀ j u, ((s.D.map Prod.snd).flatMap Dec.row)[j]? = some u → w.cell? ⟨db, do' + j, none⟩ = some u) := by
  obtain ⟨k1, k2, k3, ⟨k4, k5⟩ | ⟨ka, kc, k4, k5, k6⟩⟩ := h.keys
  · omega
  obtain ⟨d1, d2, d3, ⟨d4, d5⟩ | ⟨da, dc, d4, d5, d6⟩⟩ := h.decs
  · omega
  have hk0 : 0 < (flat s.keys).length := by omega
  have hd0 : 0 < ((s.D.map Prod.snd).flatMap Dec.row).length := by omega
  obtain ⟨kb, ko, rfl⟩ := spot_none (k6 0 _ (List.getElem?_eq_getElem hk0))
  obtain ⟨db, do', rfl⟩ := spot_none (d6 0 _ (List.getElem?_eq_getElem hd0))
  refine ⟨kb, ko, kc, db, do', dc, k4, d4, k5, d5, fun j u hj => ?_⟩
  have := d6 j u hj
  rwa [Addr.add_lit] at this

set_option maxHeartbeats 4000000 in
theorem refFind_miss (w : World) (s : St) (kv dv : Value) (k : Key) (h : RefAt w kv dv s) (hc : s.Cnt 1000000) (hp : place s.keys k = -1) :
    Calls Try.prog 27 #[.agg #[.int .i64 s.size, .int .i64 s.seq, kv, dv, .int .i64 s.h, .int .i64 s.m, .int .i64 s.e, .int .i64 s.r], .int .i64 k.a, .int .i64 k.b, .int .i64 k.c] w fun e w' => e = .returned (.tuple #[.agg #[.int .i64 s.size, .int .i64 s.seq, kv, dv, .int .i64 s.h, .int .i64 (s.m + 1), .int .i64 s.e, .int .i64 s.r], .agg #[.int .u32 0, .int .u32 0, .int .u32 0, .bool false, .int .i64 0], .bool false]) ∧ Below w.heap.size w w' := by
  obtain ⟨ka, kc, rfl, -⟩ := h.keys.form (by decide)
  obtain ⟨da, dc, rfl, -⟩ := h.decs.form (by decide)
  have HRF := Lib.hid h
  have HP := Lib.hid hp
  have hm0 := hc.m0
  have hm1 := hc.m1
  clear h hc hp
  obtain ⟨wo, hwo⟩ : ∃ wo, wo = ((w.alloc (.cells #[.int .i64 s.size, .int .i64 s.seq, .slice ka s.D.length kc, .slice da s.D.length dc, .int .i64 s.h, .int .i64 s.m, .int .i64 s.e, .int .i64 s.r] 29)).alloc (.cells #[.int .i64 0, .int .i64 0, .slice none 0 0, .slice none 0 0, .int .i64 0, .int .i64 0, .int .i64 0, .int .i64 0] 29)).alloc (.cells #[.int .u32 0, .int .u32 0, .int .u32 0, .bool false, .int .i64 0] 46) := ⟨_, rfl⟩
  have HS0 := Lib.hid (show Whole wo w.heap.size 29 #[.int .i64 s.size, .int .i64 s.seq, .slice ka s.D.length kc, .slice da s.D.length dc, .int .i64 s.h, .int .i64 s.m, .int .i64 s.e, .int .i64 s.r] by rw [hwo]; exact ((Whole.new w 29 #[.int .i64 s.size, .int .i64 s.seq, .slice ka s.D.length kc, .slice da s.D.length dc, .int .i64 s.h, .int .i64 s.m, .int .i64 s.e, .int .i64 s.r]).alloc _).alloc _)
  have HR8 := Lib.hid (show Whole wo (w.heap.size + 1) 29 #[.int .i64 0, .int .i64 0, .slice none 0 0, .slice none 0 0, .int .i64 0, .int .i64 0, .int .i64 0, .int .i64 0] by rw [hwo]; exact (whole_two w _ #[.int .i64 0, .int .i64 0, .slice none 0 0, .slice none 0 0, .int .i64 0, .int .i64 0, .int .i64 0, .int .i64 0] _).alloc _)
  have HR9 := Lib.hid (show Whole wo (w.heap.size + 2) 46 #[.int .u32 0, .int .u32 0, .int .u32 0, .bool false, .int .i64 0] by rw [hwo]; exact whole_three w _ _ #[.int .u32 0, .int .u32 0, .int .u32 0, .bool false, .int .i64 0] _)
  have HBO := Lib.hid (show Below w.heap.size w wo by rw [hwo]; exact (((Below.refl _ w).alloc (Nat.le_refl _) _).alloc (by simp) _).alloc (by simp; omega) _)
  have HN0 := Lib.hid (show wo.heap.size = w.heap.size + 3 by rw [hwo]; simp)
  go_enter Try.func27, Try.ntmps27
  go_upto_region 1 with (fail)
  rw [← hwo]
  clear hwo
  go_wp2_with (first | (refine wpList_store_blk rfl 41 _ _ rfl (wo.heap.size) 0 (.agg #[.int .i64 k.a, .int .i64 k.b, .int .i64 k.c]) rfl rfl 41 _ (Whole.new wo 41 _) (by simp [Value.cells]) sz41 rfl ?_; intro w1 S1 W1; have HS1 := Lib.hid S1; have HW1 := Lib.hid (show Whole w1 (wo.heap.size) 41 #[.int .i64 k.a, .int .i64 k.b, .int .i64 k.c] from W1); clear S1 W1; have HS01 := Lib.hid (HS1.out.whole (HS0.out.alloc _) (by have := HN0.out; omega)); have HR81 := Lib.hid (HS1.out.whole (HR8.out.alloc _) (by have := HN0.out; omega)); have HR91 := Lib.hid (HS1.out.whole (HR9.out.alloc _) (by have := HN0.out; omega)); have HB1 := Lib.hid (HBO.out.trans ((((Below.refl wo.heap.size wo).alloc (Nat.le_refl _) _).trans (HS1.out.below (Nat.le_refl _))).mono (by have := HN0.out; omega)))) | (refine wpList_load_row rfl 29 _ rfl (w.heap.size) rfl 29 _ (0, 0) _ (HS01.out) Try.underlying29 rfl size29 ?_) | (refine wpList_load_row rfl 41 _ rfl (wo.heap.size) rfl 41 _ (0, 0) _ (HW1.out) Try.underlying41 rfl sz41 ?_) | (go_at_call 38; go_must (refine ((show Calls Try.prog 38 _ w1 fun e w' => e = .returned (.int .i64 (-1)) ∧ Below w1.heap.size w1 w' by have := refIndex_any w1 s _ _ k (HRF.out.under HB1.out); rw [HP.out] at this; exact this)).mono ?_; rintro e w2 ⟨rfl, hb2⟩; have HB2 := Lib.hid (HB1.out.trans (hb2.mono HB1.out.size)); have HS02 := Lib.hid (Whole.under hb2 HS01.out HS01.out.lt); have HR82 := Lib.hid (Whole.under hb2 HR81.out HR81.out.lt); have HR92 := Lib.hid (Whole.under hb2 HR91.out HR91.out.lt); have HK2 := Lib.hid (Whole.under hb2 HW1.out HW1.out.lt); have HN2 := Lib.hid (show wo.heap.size + 1 ≤ w2.heap.size from HK2.out.lt); clear hb2 HS01 HR81 HR91 HW1 HS1; have k5 : w2.cell? ⟨w.heap.size, 5, none⟩ = some (.int .i64 s.m) := HS02.out.cell 5)) | (refine wpList_store_blk rfl 3 _ _ rfl (w.heap.size) 5 (.int .i64 (s.m + 1)) rfl rfl 29 _ (HS02.out) (by simp [Value.cells]) size3 rfl ?_; intro w3 S3 W3; have HS3 := Lib.hid S3; have HW3 := Lib.hid (show Whole w3 (w.heap.size) 29 #[.int .i64 s.size, .int .i64 s.seq, .slice ka s.D.length kc, .slice da s.D.length dc, .int .i64 s.h, .int .i64 (s.m + 1), .int .i64 s.e, .int .i64 s.r] from W3); clear S3 W3) | (refine wpList_load_row rfl 29 _ rfl (w.heap.size) rfl 29 _ (0, 0) _ (HW3.out) Try.underlying29 rfl size29 ?_) | (refine wpList_store_blk rfl 29 _ _ rfl (w.heap.size + 1) 0 (.agg #[.int .i64 s.size, .int .i64 s.seq, .slice ka s.D.length kc, .slice da s.D.length dc, .int .i64 s.h, .int .i64 (s.m + 1), .int .i64 s.e, .int .i64 s.r]) rfl rfl 29 _ (HS3.out.whole HR82.out (by have := HN0.out; omega)) (by simp [Value.cells]) size29 rfl ?_; intro w4 S4 W4; have HS4 := Lib.hid S4; have HW4 := Lib.hid (show Whole w4 (w.heap.size + 1) 29 #[.int .i64 s.size, .int .i64 s.seq, .slice ka s.D.length kc, .slice da s.D.length dc, .int .i64 s.h, .int .i64 (s.m + 1), .int .i64 s.e, .int .i64 s.r] from W4); clear S4 W4) | (refine wpList_store_blk rfl 46 _ _ rfl (w.heap.size + 2) 0 (.agg #[.int .u32 0, .int .u32 0, .int .u32 0, .bool false, .int .i64 0]) rfl rfl 46 _ (HS4.out.whole (HS3.out.whole HR92.out (by have := HN0.out; omega)) (by have := HN0.out; omega)) (by simp [Value.cells]) size46 rfl ?_; intro w5 S5 W5; have HS5 := Lib.hid S5; have HW5 := Lib.hid (show Whole w5 (w.heap.size + 2) 46 #[.int .u32 0, .int .u32 0, .int .u32 0, .bool false, .int .i64 0] from W5); clear S5 W5))
  have e0 : w5.cell? ⟨w.heap.size + 1, 0, none⟩ = some (.int .i64 s.size) := (HS5.out.whole HW4.out (by have := HN0.out; omega)).cell 0
  have e1 : w5.cell? ⟨w.heap.size + 1, 1, none⟩ = some (.int .i64 s.seq) := (HS5.out.whole HW4.out (by have := HN0.out; omega)).cell 1
  have e2 : w5.cell? ⟨w.heap.size + 1, 2, none⟩ = some (.slice ka s.D.length kc) := (HS5.out.whole HW4.out (by have := HN0.out; omega)).cell 2
  have e3 : w5.cell? ⟨w.heap.size + 1, 3, none⟩ = some (.slice da s.D.length dc) := (HS5.out.whole HW4.out (by have := HN0.out; omega)).cell 3
  have e4 : w5.cell? ⟨w.heap.size + 1, 4, none⟩ = some (.int .i64 s.h) := (HS5.out.whole HW4.out (by have := HN0.out; omega)).cell 4
  have e5 : w5.cell? ⟨w.heap.size + 1, 5, none⟩ = some (.int .i64 (s.m + 1)) := (HS5.out.whole HW4.out (by have := HN0.out; omega)).cell 5
  have e6 : w5.cell? ⟨w.heap.size + 1, 6, none⟩ = some (.int .i64 s.e) := (HS5.out.whole HW4.out (by have := HN0.out; omega)).cell 6
  have e7 : w5.cell? ⟨w.heap.size + 1, 7, none⟩ = some (.int .i64 s.r) := (HS5.out.whole HW4.out (by have := HN0.out; omega)).cell 7
  have f0 : w5.cell? ⟨w.heap.size + 1 + 1, 0, none⟩ = some (.int .u32 0) := HW5.out.cell 0
  have f1 : w5.cell? ⟨w.heap.size + 1 + 1, 1, none⟩ = some (.int .u32 0) := HW5.out.cell 1
  have f2 : w5.cell? ⟨w.heap.size + 1 + 1, 2, none⟩ = some (.int .u32 0) := HW5.out.cell 2
  have f3 : w5.cell? ⟨w.heap.size + 1 + 1, 3, none⟩ = some (.bool false) := HW5.out.cell 3
  have f4 : w5.cell? ⟨w.heap.size + 1 + 1, 4, none⟩ = some (.int .i64 0) := HW5.out.cell 4
  have hb := ((HB2.out.trans (HS3.out.below (by have := HN0.out; omega))).trans (HS4.out.below (by have := HN0.out; omega))).trans (HS5.out.below (by have := HN0.out; omega))
  refine bodyPost_ret (v := .tuple #[.agg #[.int .i64 s.size, .int .i64 s.seq, .slice ka s.D.length kc, .slice da s.D.length dc, .int .i64 s.h, .int .i64 (s.m + 1), .int .i64 s.e, .int .i64 s.r], .agg #[.int .u32 0, .int .u32 0, .int .u32 0, .bool false, .int .i64 0], .bool false]) ?_ rfl ⟨rfl, hb⟩
  simp [results, Try.results27, go_sem, e0, e1, e2, e3, e4, e5, e6, e7, f0, f1, f2, f3, f4]

set_option maxHeartbeats 8000000 in
theorem refFind_hit (w : World) (s : St) (kv dv : Value) (k : Key) (d : Dec) (q : Nat) (h : RefAt w kv dv s) (hbig : s.D.length ≤ 2000) (hc : s.Cnt 1000000) (hp : place s.keys k = (q : Int)) (hq : s.D[q]? = some (k, d)) :
    Calls Try.prog 27 #[.agg #[.int .i64 s.size, .int .i64 s.seq, kv, dv, .int .i64 s.h, .int .i64 s.m, .int .i64 s.e, .int .i64 s.r], .int .i64 k.a, .int .i64 k.b, .int .i64 k.c] w fun e w' => ∃ kv' dv', e = .returned (.tuple #[.agg #[.int .i64 s.size, .int .i64 s.seq, kv', dv', .int .i64 (s.h + 1), .int .i64 s.m, .int .i64 s.e, .int .i64 s.r], .agg #[.int .u32 d.allowed, .int .u32 d.auditAllow, .int .u32 d.auditDeny, .bool d.permissive, .int .i64 d.seq], .bool true]) ∧ RefAt w' kv' dv' {s with D := (k, d) :: s.D.eraseIdx q} ∧ NewRow w.heap.size kv' ∧ NewRow w.heap.size dv' ∧ TyRow w' 41 kv' ∧ TyRow w' 46 dv' ∧ Below w.heap.size w w' := by
  have hlt : q < s.D.length := (List.getElem?_eq_some_iff.1 hq).1
  obtain ⟨kb, ko, kc, db, do', dc, rfl, rfl, hkc, hdc, hcc⟩ := h.some hlt
  have HRF := Lib.hid h
  have HP := Lib.hid hp
  have HBIG := Lib.hid hbig
  have HLT := Lib.hid hlt
  have HKC := Lib.hid hkc
  have HDC := Lib.hid hdc
  have HCC := Lib.hid (show ∀ j u, d.row[j]? = some u → w.cell? ⟨db, do' + q * 5 + j, none⟩ = some u from fun j u hu => by
    have hj : j < 5 := by have := (List.getElem?_eq_some_iff.1 hu).1; rwa [row_len] at this
    have := hcc (q * 5 + j) u (by rw [flat_at row_len (show (s.D.map Prod.snd)[q]? = some d by simp [hq]) j hj]; exact hu)
    rw [← this, Nat.add_assoc])
  have hh0 := hc.h0
  have hh1 := hc.h1
  clear h hc hp hbig hkc hdc hcc hq
  obtain ⟨wo, hwo⟩ : ∃ wo, wo = ((w.alloc (.cells #[.int .i64 s.size, .int .i64 s.seq, .slice (some ⟨kb, ko, none⟩) s.D.length kc, .slice (some ⟨db, do', none⟩) s.D.length dc, .int .i64 s.h, .int .i64 s.m, .int .i64 s.e, .int .i64 s.r] 29)).alloc (.cells #[.int .i64 0, .int .i64 0, .slice none 0 0, .slice none 0 0, .int .i64 0, .int .i64 0, .int .i64 0, .int .i64 0] 29)).alloc (.cells #[.int .u32 0, .int .u32 0, .int .u32 0, .bool false, .int .i64 0] 46) := ⟨_, rfl⟩
  have HS0 := Lib.hid (show Whole wo w.heap.size 29 #[.int .i64 s.size, .int .i64 s.seq, .slice (some ⟨kb, ko, none⟩) s.D.length kc, .slice (some ⟨db, do', none⟩) s.D.length dc, .int .i64 s.h, .int .i64 s.m, .int .i64 s.e, .int .i64 s.r] by rw [hwo]; exact ((Whole.new w 29 #[.int .i64 s.size, .int .i64 s.seq, .slice (some ⟨kb, ko, none⟩) s.D.length kc, .slice (some ⟨db, do', none⟩) s.D.length dc, .int .i64 s.h, .int .i64 s.m, .int .i64 s.e, .int .i64 s.r]).alloc _).alloc _)
  have HR8 := Lib.hid (show Whole wo (w.heap.size + 1) 29 #[.int .i64 0, .int .i64 0, .slice none 0 0, .slice none 0 0, .int .i64 0, .int .i64 0, .int .i64 0, .int .i64 0] by rw [hwo]; exact (whole_two w _ #[.int .i64 0, .int .i64 0, .slice none 0 0, .slice none 0 0, .int .i64 0, .int .i64 0, .int .i64 0, .int .i64 0] _).alloc _)
  have HR9 := Lib.hid (show Whole wo (w.heap.size + 2) 46 #[.int .u32 0, .int .u32 0, .int .u32 0, .bool false, .int .i64 0] by rw [hwo]; exact whole_three w _ _ #[.int .u32 0, .int .u32 0, .int .u32 0, .bool false, .int .i64 0] _)
  have HBO := Lib.hid (show Below w.heap.size w wo by rw [hwo]; exact (((Below.refl _ w).alloc (Nat.le_refl _) _).alloc (by simp) _).alloc (by simp; omega) _)
  have HN0 := Lib.hid (show wo.heap.size = w.heap.size + 3 by rw [hwo]; simp)
  go_enter Try.func27, Try.ntmps27
  go_upto_region 1 with (fail)
  rw [← hwo]
  clear hwo
  go_wp2_with (first | (refine wpList_store_blk rfl 41 _ _ rfl (wo.heap.size) 0 (.agg #[.int .i64 k.a, .int .i64 k.b, .int .i64 k.c]) rfl rfl 41 _ (Whole.new wo 41 _) (by simp [Value.cells]) sz41 rfl ?_; intro w1 S1 W1; have HS1 := Lib.hid S1; have HW1 := Lib.hid (show Whole w1 (wo.heap.size) 41 #[.int .i64 k.a, .int .i64 k.b, .int .i64 k.c] from W1); clear S1 W1; have HS01 := Lib.hid (HS1.out.whole (HS0.out.alloc _) (by have := HN0.out; omega)); have HR81 := Lib.hid (HS1.out.whole (HR8.out.alloc _) (by have := HN0.out; omega)); have HR91 := Lib.hid (HS1.out.whole (HR9.out.alloc _) (by have := HN0.out; omega)); have HB1 := Lib.hid (HBO.out.trans ((((Below.refl wo.heap.size wo).alloc (Nat.le_refl _) _).trans (HS1.out.below (Nat.le_refl _))).mono (by have := HN0.out; omega)))) | (refine wpList_load_row rfl 29 _ rfl (w.heap.size) rfl 29 _ (0, 0) _ (HS01.out) Try.underlying29 rfl size29 ?_) | (refine wpList_load_row rfl 41 _ rfl (wo.heap.size) rfl 41 _ (0, 0) _ (HW1.out) Try.underlying41 rfl sz41 ?_) | (go_at_call 38; go_must (refine ((show Calls Try.prog 38 _ w1 fun e w' => e = .returned (.int .i64 (q : Nat)) ∧ Below w1.heap.size w1 w' by have := refIndex_any w1 s _ _ k (HRF.out.under HB1.out); rw [HP.out] at this; exact this)).mono ?_; rintro e w2 ⟨rfl, hb2⟩; have HB2 := Lib.hid (HB1.out.trans (hb2.mono HB1.out.size)); have HS02 := Lib.hid (Whole.under hb2 HS01.out HS01.out.lt); have HR82 := Lib.hid (Whole.under hb2 HR81.out HR81.out.lt); have HR92 := Lib.hid (Whole.under hb2 HR91.out HR91.out.lt); have HK2 := Lib.hid (Whole.under hb2 HW1.out HW1.out.lt); have HN2 := Lib.hid (show wo.heap.size + 1 ≤ w2.heap.size from HK2.out.lt); clear hb2 HS01 HR81 HR91 HW1 HS1; have k3 : w2.cell? ⟨w.heap.size, 3, none⟩ = some (.slice (some ⟨db, do', none⟩) s.D.length dc) := HS02.out.cell 3; have c0 : w2.cell? ⟨db, do' + q * 5, none⟩ = some (.int .u32 d.allowed) := cell_later HB2.out (HCC.out 0 _ rfl); have c1 : w2.cell? ⟨db, do' + q * 5 + 1, none⟩ = some (.int .u32 d.auditAllow) := cell_later HB2.out (HCC.out 1 _ rfl); have c2 : w2.cell? ⟨db, do' + q * 5 + 2, none⟩ = some (.int .u32 d.auditDeny) := cell_later HB2.out (HCC.out 2 _ rfl); have c3 : w2.cell? ⟨db, do' + q * 5 + 3, none⟩ = some (.bool d.permissive) := cell_later HB2.out (HCC.out 3 _ rfl); have c4 : w2.cell? ⟨db, do' + q * 5 + 4, none⟩ = some (.int .i64 d.seq) := cell_later HB2.out (HCC.out 4 _ rfl))) | (refine wpList_store_blk rfl 46 _ _ rfl (w2.heap.size) 0 (.agg #[.int .u32 d.allowed, .int .u32 d.auditAllow, .int .u32 d.auditDeny, .bool d.permissive, .int .i64 d.seq]) rfl rfl 46 _ (Whole.new w2 46 _) (by simp [Value.cells]) size46 rfl ?_; intro w3 S3 W3; have HS3 := Lib.hid S3; have HW3 := Lib.hid (show Whole w3 (w2.heap.size) 46 #[.int .u32 d.allowed, .int .u32 d.auditAllow, .int .u32 d.auditDeny, .bool d.permissive, .int .i64 d.seq] from W3); clear S3 W3; have HS03 := Lib.hid (HS3.out.whole (HS02.out.alloc _) (by have := HN0.out; have := HN2.out; omega)); have HR83 := Lib.hid (HS3.out.whole (HR82.out.alloc _) (by have := HN0.out; have := HN2.out; omega)); have HR93 := Lib.hid (HS3.out.whole (HR92.out.alloc _) (by have := HN0.out; have := HN2.out; omega)); have HK3 := Lib.hid (HS3.out.whole (HK2.out.alloc _) (by have := HN0.out; have := HN2.out; omega)); have k4 : w3.cell? ⟨w.heap.size, 4, none⟩ = some (.int .i64 s.h) := HS03.out.cell 4; clear k3 c0 c1 c2 c3 c4) | (refine wpList_store_blk rfl 3 _ _ rfl (w.heap.size) 4 (.int .i64 (s.h + 1)) rfl rfl 29 _ (HS03.out) (by simp [Value.cells]) size3 rfl ?_; intro w4 S4 W4; have HS4 := Lib.hid S4; have HW4 := Lib.hid (show Whole w4 (w.heap.size) 29 #[.int .i64 s.size, .int .i64 s.seq, .slice (some ⟨kb, ko, none⟩) s.D.length kc, .slice (some ⟨db, do', none⟩) s.D.length dc, .int .i64 (s.h + 1), .int .i64 s.m, .int .i64 s.e, .int .i64 s.r] from W4); clear S4 W4; have HD4 := Lib.hid (HS4.out.whole HW3.out (by have := HN0.out; have := HN2.out; omega)); have HR84 := Lib.hid (HS4.out.whole HR83.out (by have := HN0.out; omega)); have HR94 := Lib.hid (HS4.out.whole HR93.out (by have := HN0.out; omega)); have HK4 := Lib.hid (HS4.out.whole HK3.out (by have := HN0.out; omega)); have HB4 := Lib.hid (HB2.out.trans (((((Below.refl w2.heap.size w2).alloc (Nat.le_refl _) _).trans (HS3.out.below (Nat.le_refl _))).mono (by have := HN0.out; have := HN2.out; omega)).trans (HS4.out.below (by have := HN0.out; omega)))); have HN4 := Lib.hid (show w2.heap.size + 1 ≤ w4.heap.size from HD4.out.lt); clear k4 HR83 HR93 HK3 HS03 HS3 HW3))
  have HREF4 := Lib.hid (HRF.out.under HB4.out)
  have hrefx : ∀ {wx : World}, Tch w4 wx (fun i => i = w.heap.size + 1 ∨ i = w.heap.size + 2) → RefAt wx (.slice (some ⟨kb, ko, none⟩) s.D.length kc) (.slice (some ⟨db, do', none⟩) s.D.length dc) s := fun {wx} ht => HRF.out.under (HB4.out.trans (ht.below (B := w.heap.size) (fun i e => by omega) (by have := HN0.out; have := HN2.out; have := HN4.out; omega)))
  refine wp_region_goods [some 38, some 39, some 40, some 41, some 42, some 43, some 44, none, none] [isW (.agg #[.int .i64 s.size, .int .i64 s.seq, .slice (some ⟨kb, ko, none⟩) s.D.length kc, .slice (some ⟨db, do', none⟩) s.D.length dc, .int .i64 (s.h + 1), .int .i64 s.m, .int .i64 s.e, .int .i64 s.r]), isW (.int .i64 (q : Nat)), fun _ u w' => ∃ kv dv, u = .agg #[.int .i64 s.size, .int .i64 s.seq, kv, dv, .int .i64 (s.h + 1), .int .i64 s.m, .int .i64 s.e, .int .i64 s.r] ∧ RefAt w' kv dv {s with D := s.D.eraseIdx q} ∧ NewRow w4.heap.size kv ∧ NewRow w4.heap.size dv, isW (.agg #[.int .i64 k.a, .int .i64 k.b, .int .i64 k.c]), isW (.agg #[.int .u32 d.allowed, .int .u32 d.auditAllow, .int .u32 d.auditDeny, .bool d.permissive, .int .i64 d.seq]), fun L u w' => ∃ kv dv, u = .agg #[.int .i64 s.size, .int .i64 s.seq, kv, dv, .int .i64 (s.h + 1), .int .i64 s.m, .int .i64 s.e, .int .i64 s.r] ∧ RefAt w' kv dv {s with D := (k, d) :: s.D.eraseIdx q} ∧ NewRow w4.heap.size kv ∧ NewRow w4.heap.size dv ∧ TyRow w' 41 kv ∧ TyRow w' 46 dv ∧ L 5 = true ∧ (L 7 = true → Whole w' (w.heap.size + 1) 29 #[.int .i64 s.size, .int .i64 s.seq, kv, dv, .int .i64 (s.h + 1), .int .i64 s.m, .int .i64 s.e, .int .i64 s.r]), isW (.agg #[.int .u32 d.allowed, .int .u32 d.auditAllow, .int .u32 d.auditDeny, .bool d.permissive, .int .i64 d.seq]), fun _ _ _ => True, fun _ _ w' => Whole w' (w.heap.size + 2) 46 #[.int .u32 d.allowed, .int .u32 d.auditAllow, .int .u32 d.auditDeny, .bool d.permissive, .int .i64 d.seq]] (fun L w' => Tch w4 w' (fun i => i = w.heap.size + 1 ∨ i = w.heap.size + 2) ∧ (L 7 = false → Whole w' (w.heap.size + 1) 29 #[.int .i64 0, .int .i64 0, .slice none 0 0, .slice none 0 0, .int .i64 0, .int .i64 0, .int .i64 0, .int .i64 0]) ∧ (L 8 = false → Whole w' (w.heap.size + 2) 46 #[.int .u32 0, .int .u32 0, .int .u32 0, .bool false, .int .i64 0]) ∧ (L 7 = true → L 5 = true)) [7, 8] (by kernel_rfl) (by kernel_rfl) (by kernel_rfl) rfl (by decide) rfl rfl (⟨(Tch.refl _ _).drewR, fun _ => HR84.out, fun _ => HR94.out, fun h => by cases h⟩) ⟨lastsW_is _, lastsW_is _, (fun L i v w' w'' hi ⟨kv, dv, h1, h2, h3, h4⟩ hb => ⟨kv, dv, h1, ⟨h2.keys.keep hb, h2.decs.keep hb⟩, h3, h4⟩), lastsW_is _, lastsW_is _, (fun L i v w' w'' hi ⟨kv, dv, h1, h2, h3, h4, t1, t2, h0, h5⟩ hb => ⟨kv, dv, h1, ⟨h2.keys.keep hb, h2.decs.keep hb⟩, h3, h4, t1.keep hb, t2.keep hb, by simp [upd, h0], fun h => by have h6 := h5 (by rcases Bool.or_eq_true_iff.1 h with e | e; (have e' : (7 : Nat) = i := by simpa using e); subst e'; simp at hi; exact e); exact Whole.under hb h6 h6.lt⟩), lastsW_is _, (fun _ _ _ _ _ _ _ _ => trivial), (fun L i v w' w'' hi h hb => Whole.under hb h h.lt), trivial⟩ ⟨?_, ?_, ?_, ?_, ?_, ?_, ?_, ?_, ?_, ?_⟩
  · intro L a wx Q' hL hi H F hK
    try dsimp only at hi
    have h4 : a.tmps[4]? = some (.pointer (some ⟨w.heap.size, 0, none⟩)) := F 4 rfl
    have HI := Lib.hid hi
    clear H F hi hL
    have kq0 : wx.cell? ⟨w.heap.size, 0, none⟩ = some (.int .i64 s.size) := (HI.out.1.whole HW4.out (by have := HN0.out; have := HN2.out; have := HN4.out; omega)).cell 0
    have kq1 : wx.cell? ⟨w.heap.size, 1, none⟩ = some (.int .i64 s.seq) := (HI.out.1.whole HW4.out (by have := HN0.out; have := HN2.out; have := HN4.out; omega)).cell 1
    have kq2 : wx.cell? ⟨w.heap.size, 2, none⟩ = some (.slice (some ⟨kb, ko, none⟩) s.D.length kc) := (HI.out.1.whole HW4.out (by have := HN0.out; have := HN2.out; have := HN4.out; omega)).cell 2
    have kq3 : wx.cell? ⟨w.heap.size, 3, none⟩ = some (.slice (some ⟨db, do', none⟩) s.D.length dc) := (HI.out.1.whole HW4.out (by have := HN0.out; have := HN2.out; have := HN4.out; omega)).cell 3
    have kq4 : wx.cell? ⟨w.heap.size, 4, none⟩ = some (.int .i64 (s.h + 1)) := (HI.out.1.whole HW4.out (by have := HN0.out; have := HN2.out; have := HN4.out; omega)).cell 4
    have kq5 : wx.cell? ⟨w.heap.size, 5, none⟩ = some (.int .i64 s.m) := (HI.out.1.whole HW4.out (by have := HN0.out; have := HN2.out; have := HN4.out; omega)).cell 5
    have kq6 : wx.cell? ⟨w.heap.size, 6, none⟩ = some (.int .i64 s.e) := (HI.out.1.whole HW4.out (by have := HN0.out; have := HN2.out; have := HN4.out; omega)).cell 6
    have kq7 : wx.cell? ⟨w.heap.size, 7, none⟩ = some (.int .i64 s.r) := (HI.out.1.whole HW4.out (by have := HN0.out; have := HN2.out; have := HN4.out; omega)).cell 7
    go_wp2_with fail
    exact hK _ _ (Below.refl _ _) HI.out rfl
  · intro L a wx Q' hL hi H F hK
    try dsimp only at hi
    have h12 : a.tmps[12]? = some (.int .i64 (q : Nat)) := F 12 rfl
    have HI := Lib.hid hi
    clear H F hi hL
    go_wp2_with fail
    exact hK _ _ (Below.refl _ _) HI.out rfl
  · intro L a wx Q' hL hi H F hK
    try dsimp only at hi
    obtain ⟨_, h38, rfl⟩ := H 0 ⟨.data, by simp, rfl⟩ _ rfl
    replace h38 := h38 _ rfl
    obtain ⟨_, h39, rfl⟩ := H 1 ⟨.data, by simp, rfl⟩ _ rfl
    replace h39 := h39 _ rfl
    have HI := Lib.hid hi
    clear H F hi
    go_wp2_with (go_at_call 40; go_must (refine (without_any wx {s with h := s.h + 1} _ _ _ _ _ _ q (RefAt.of_same (hrefx HI.out.1)) HBIG.out HLT.out HKC.out HDC.out).mono ?_; rintro e w' ⟨kv, dv, rfl, h2, h3, h4, hb⟩))
    exact hK _ _ hb ⟨HI.out.1.trans (Tch.of_below hb (Nat.le_refl _)), fun h => Whole.under hb (HI.out.2.1 h) (HI.out.2.1 h).lt, fun h => Whole.under hb (HI.out.2.2.1 h) (HI.out.2.2.1 h).lt, fun h => (HI.out.2.2.2 h)⟩ ⟨kv, dv, rfl, ⟨h2.keys, h2.decs⟩, fun g e => Nat.le_trans HI.out.1.size (h3 g e), fun g e => Nat.le_trans HI.out.1.size (h4 g e)⟩
  · intro L a wx Q' hL hi H F hK
    try dsimp only at hi
    have h11 : a.tmps[11]? = some (.pointer (some ⟨wo.heap.size, 0, none⟩)) := F 11 rfl
    have HI := Lib.hid hi
    clear H F hi hL
    have kq0 : wx.cell? ⟨wo.heap.size, 0, none⟩ = some (.int .i64 k.a) := (HI.out.1.whole HK4.out (by have := HN0.out; have := HN2.out; have := HN4.out; omega)).cell 0
    have kq1 : wx.cell? ⟨wo.heap.size, 1, none⟩ = some (.int .i64 k.b) := (HI.out.1.whole HK4.out (by have := HN0.out; have := HN2.out; have := HN4.out; omega)).cell 1
    have kq2 : wx.cell? ⟨wo.heap.size, 2, none⟩ = some (.int .i64 k.c) := (HI.out.1.whole HK4.out (by have := HN0.out; have := HN2.out; have := HN4.out; omega)).cell 2
    go_wp2_with fail
    exact hK _ _ (Below.refl _ _) HI.out rfl
  · intro L a wx Q' hL hi H F hK
    try dsimp only at hi
    have h13 : a.tmps[13]? = some (.pointer (some ⟨w2.heap.size, 0, none⟩)) := F 13 rfl
    have HI := Lib.hid hi
    clear H F hi hL
    have kq0 : wx.cell? ⟨w2.heap.size, 0, none⟩ = some (.int .u32 d.allowed) := (HI.out.1.whole HD4.out (by have := HN0.out; have := HN2.out; have := HN4.out; omega)).cell 0
    have kq1 : wx.cell? ⟨w2.heap.size, 1, none⟩ = some (.int .u32 d.auditAllow) := (HI.out.1.whole HD4.out (by have := HN0.out; have := HN2.out; have := HN4.out; omega)).cell 1
    have kq2 : wx.cell? ⟨w2.heap.size, 2, none⟩ = some (.int .u32 d.auditDeny) := (HI.out.1.whole HD4.out (by have := HN0.out; have := HN2.out; have := HN4.out; omega)).cell 2
    have kq3 : wx.cell? ⟨w2.heap.size, 3, none⟩ = some (.bool d.permissive) := (HI.out.1.whole HD4.out (by have := HN0.out; have := HN2.out; have := HN4.out; omega)).cell 3
    have kq4 : wx.cell? ⟨w2.heap.size, 4, none⟩ = some (.int .i64 d.seq) := (HI.out.1.whole HD4.out (by have := HN0.out; have := HN2.out; have := HN4.out; omega)).cell 4
    go_wp2_with fail
    exact hK _ _ (Below.refl _ _) HI.out rfl
  · intro L a wx Q' hL hi H F hK
    try dsimp only at hi
    obtain ⟨v40, h40, hv40⟩ := H 2 ⟨.data, by simp, rfl⟩ _ rfl
    replace h40 := h40 _ rfl
    have HV40 := Lib.hid hv40
    clear hv40
    obtain ⟨_, h41, rfl⟩ := H 3 ⟨.data, by simp, rfl⟩ _ rfl
    replace h41 := h41 _ rfl
    obtain ⟨_, h42, rfl⟩ := H 4 ⟨.data, by simp, rfl⟩ _ rfl
    replace h42 := h42 _ rfl
    have HI := Lib.hid hi
    clear H F hi
    obtain ⟨kv, dv, rfl, hrf, -, -⟩ := HV40.out
    clear HV40
    obtain ⟨ka, kc, rfl, -⟩ := hrf.keys.form (by decide)
    obtain ⟨da, dc, rfl, -⟩ := hrf.decs.form (by decide)
    have HRX := Lib.hid (show RefAt wx _ _ {s with h := s.h + 1, D := s.D.eraseIdx q} from ⟨hrf.keys, hrf.decs⟩)
    clear hrf
    go_wp2_with (go_at_call 39; go_must (refine (used_any wx {s with h := s.h + 1, D := s.D.eraseIdx q} _ _ _ _ k d HRX.out (by have := HBIG.out; have := List.length_eraseIdx_le s.D q; simp only; omega)).mono ?_; rintro e w' ⟨kv, dv, rfl, h2, h3, h4, t1, t2, hb⟩))
    exact hK _ _ hb ⟨HI.out.1.trans (Tch.of_below hb (Nat.le_refl _)), fun h => Whole.under hb (HI.out.2.1 h) (HI.out.2.1 h).lt, fun h => Whole.under hb (HI.out.2.2.1 h) (HI.out.2.2.1 h).lt, fun _ => by simp [upd]⟩ ⟨kv, dv, rfl, ⟨h2.keys, h2.decs⟩, fun g e => Nat.le_trans HI.out.1.size (h3 g e), fun g e => Nat.le_trans HI.out.1.size (h4 g e), t1, t2, by simp [upd], fun h => by rw [upd_ne' _ (show (7 : Nat) ≠ 5 by decide)] at h; rw [HI.out.2.2.2 h] at hL; cases hL⟩
  · intro L a wx Q' hL hi H F hK
    try dsimp only at hi
    have h13 : a.tmps[13]? = some (.pointer (some ⟨w2.heap.size, 0, none⟩)) := F 13 rfl
    have HI := Lib.hid hi
    clear H F hi hL
    have kq0 : wx.cell? ⟨w2.heap.size, 0, none⟩ = some (.int .u32 d.allowed) := (HI.out.1.whole HD4.out (by have := HN0.out; have := HN2.out; have := HN4.out; omega)).cell 0
    have kq1 : wx.cell? ⟨w2.heap.size, 1, none⟩ = some (.int .u32 d.auditAllow) := (HI.out.1.whole HD4.out (by have := HN0.out; have := HN2.out; have := HN4.out; omega)).cell 1
    have kq2 : wx.cell? ⟨w2.heap.size, 2, none⟩ = some (.int .u32 d.auditDeny) := (HI.out.1.whole HD4.out (by have := HN0.out; have := HN2.out; have := HN4.out; omega)).cell 2
    have kq3 : wx.cell? ⟨w2.heap.size, 3, none⟩ = some (.bool d.permissive) := (HI.out.1.whole HD4.out (by have := HN0.out; have := HN2.out; have := HN4.out; omega)).cell 3
    have kq4 : wx.cell? ⟨w2.heap.size, 4, none⟩ = some (.int .i64 d.seq) := (HI.out.1.whole HD4.out (by have := HN0.out; have := HN2.out; have := HN4.out; omega)).cell 4
    go_wp2_with fail
    exact hK _ _ (Below.refl _ _) HI.out rfl
  · intro L a wx Q' hL hi H F hK
    try dsimp only at hi
    obtain ⟨v43, h43, hv43⟩ := H 5 ⟨.data, by simp, rfl⟩ _ rfl
    replace h43 := h43 _ rfl
    have HV43 := Lib.hid hv43
    clear hv43
    have h8 : a.tmps[8]? = some (.pointer (some ⟨w.heap.size + 1, 0, none⟩)) := F 8 rfl
    have HI := Lib.hid hi
    clear H F hi
    obtain ⟨kv, dv, rfl, hrf, hnk, hnd, -, -, hl5, -⟩ := HV43.out
    have HL5 := Lib.hid hl5
    obtain ⟨ja, jm, jc, rfl⟩ := own_shape hrf.keys
    obtain ⟨ea, em, ec, rfl⟩ := own_shape hrf.decs
    have HW8 := Lib.hid (HI.out.2.1 hL)
    clear HV43 hl5
    refine wpList_store_blk rfl 29 _ _ rfl (w.heap.size + 1) 0 (.agg #[.int .i64 s.size, .int .i64 s.seq, .slice ja jm jc, .slice ea em ec, .int .i64 (s.h + 1), .int .i64 s.m, .int .i64 s.e, .int .i64 s.r]) (by simp [Act.eval, *]) (by simp [Act.eval, *]) 29 _ HW8.out (by simp [Value.cells]) size29 rfl ?_
    intro w5 S5 W5
    exact hK undef w5 (show KeepAll _ _ _ _ _ _ _ _ from ⟨(fun _ _ _ _ h => h), (fun _ _ _ _ h => h), (fun _ _ v _ ⟨kv', dv', h1, h2, h3, h4⟩ => ⟨kv', dv', h1, ⟨S5.slice h2.keys (fun e => by have := h3 _ e; have := HN0.out; have := HN2.out; have := HN4.out; omega), S5.slice h2.decs (fun e => by have := h4 _ e; have := HN0.out; have := HN2.out; have := HN4.out; omega)⟩, h3, h4⟩), (fun _ _ _ _ h => h), (fun _ _ _ _ h => h), (fun _ _ v hv ⟨kv', dv', h1, h2, h3, h4, t1, t2, h0, h5⟩ => by have e := Option.some.inj ((hv 43 rfl).symm.trans h43); subst e; cases h1; exact ⟨_, _, rfl, ⟨S5.slice h2.keys (fun e => by have := h3 _ e; have := HN0.out; have := HN2.out; have := HN4.out; omega), S5.slice h2.decs (fun e => by have := h4 _ e; have := HN0.out; have := HN2.out; have := HN4.out; omega)⟩, h3, h4, t1.sto S5 (fun e => by have := h3 _ e; have := HN0.out; have := HN2.out; have := HN4.out; omega), t2.sto S5 (fun e => by have := h4 _ e; have := HN0.out; have := HN2.out; have := HN4.out; omega), by simp [upd, h0], fun _ => W5⟩), (fun _ _ _ _ h => h), (fun h => absurd rfl h), (fun _ _ _ _ h => S5.whole h (by omega)), trivial⟩) ⟨HI.out.1.trans (Tch.of_sto S5 (.inl rfl)), fun h => by simp [upd] at h, fun h => S5.whole (HI.out.2.2.1 (by rw [upd_ne' _ (show (8 : Nat) ≠ 7 by decide)] at h; exact h)) (by omega), fun _ => by rw [upd_ne' _ (show (5 : Nat) ≠ 7 by decide)]; exact HL5.out⟩ trivial
  · intro L a wx Q' hL hi H F hK
    try dsimp only at hi
    obtain ⟨_, h44, rfl⟩ := H 6 ⟨.data, by simp, rfl⟩ _ rfl
    replace h44 := h44 _ rfl
    have h9 : a.tmps[9]? = some (.pointer (some ⟨w.heap.size + 2, 0, none⟩)) := F 9 rfl
    have HI := Lib.hid hi
    clear H F hi
    have HW9 := Lib.hid (HI.out.2.2.1 hL)
    refine wpList_store_blk rfl 46 _ _ rfl (w.heap.size + 2) 0 (.agg #[.int .u32 d.allowed, .int .u32 d.auditAllow, .int .u32 d.auditDeny, .bool d.permissive, .int .i64 d.seq]) (by simp [Act.eval, *]) (by simp [Act.eval, *]) 46 _ HW9.out (by simp [Value.cells]) size46 rfl ?_
    intro w5 S5 W5
    exact hK undef w5 (show KeepAll _ _ _ _ _ _ _ _ from ⟨(fun _ _ _ _ h => h), (fun _ _ _ _ h => h), (fun _ _ v _ ⟨kv', dv', h1, h2, h3, h4⟩ => ⟨kv', dv', h1, ⟨S5.slice h2.keys (fun e => by have := h3 _ e; have := HN0.out; have := HN2.out; have := HN4.out; omega), S5.slice h2.decs (fun e => by have := h4 _ e; have := HN0.out; have := HN2.out; have := HN4.out; omega)⟩, h3, h4⟩), (fun _ _ _ _ h => h), (fun _ _ _ _ h => h), (fun _ _ v _ ⟨kv', dv', h1, h2, h3, h4, t1, t2, h0, h5⟩ => ⟨kv', dv', h1, ⟨S5.slice h2.keys (fun e => by have := h3 _ e; have := HN0.out; have := HN2.out; have := HN4.out; omega), S5.slice h2.decs (fun e => by have := h4 _ e; have := HN0.out; have := HN2.out; have := HN4.out; omega)⟩, h3, h4, t1.sto S5 (fun e => by have := h3 _ e; have := HN0.out; have := HN2.out; have := HN4.out; omega), t2.sto S5 (fun e => by have := h4 _ e; have := HN0.out; have := HN2.out; have := HN4.out; omega), by simp [upd, h0], fun h => S5.whole (h5 (by rw [upd_ne' _ (show (7 : Nat) ≠ 8 by decide)] at h; exact h)) (by omega)⟩), (fun _ _ _ _ h => h), (fun _ _ _ _ h => h), (fun h => absurd rfl h), trivial⟩) ⟨HI.out.1.trans (Tch.of_sto S5 (.inr rfl)), fun h => S5.whole (HI.out.2.1 (by rw [upd_ne' _ (show (7 : Nat) ≠ 8 by decide)] at h; exact h)) (by omega), fun h => by simp [upd] at h, fun h => by rw [upd_ne' _ (show (7 : Nat) ≠ 8 by decide)] at h; rw [upd_ne' _ (show (5 : Nat) ≠ 8 by decide)]; exact HI.out.2.2.2 h⟩ W5
  · intro a wx L hl hi hL Q' hK
    try dsimp only at hi
    have HB := Lib.hid hi
    have HL := Lib.hid hL
    clear hi hL
    obtain ⟨_, rfl, _, rfl, u40, hu40, _, rfl, _, rfl, u43, hu43, _, rfl, un7, hun7, un8, hun8, rfl⟩ := hl
    have HU40 := Lib.hid hu40
    clear hu40
    have HU43 := Lib.hid hu43
    clear hu43
    have HUn7 := Lib.hid hun7
    clear hun7
    have HUn8 := Lib.hid hun8
    clear hun8
    simp only [List.setIfInBounds_toArray, List.set_cons_zero, List.set_cons_succ]
    obtain ⟨kv, dv, rfl, hrf, hk, hd, t1, t2, -, h7⟩ := HU43.out
    have HT1 := Lib.hid t1
    have HT2 := Lib.hid t2
    have HK := Lib.hid (show NewRow w.heap.size kv from fun g e => by have := hk g e; have := HB4.out.size; omega)
    have HDW := Lib.hid (show NewRow w.heap.size dv from fun g e => by have := hd g e; have := HB4.out.size; omega)
    clear hk hd t1 t2
    have HR7 := Lib.hid (h7 (HL.out 7 (by decide)))
    have HRL := Lib.hid hrf
    have HR9L := Lib.hid HUn8.out
    have HBL := Lib.hid (show Below w.heap.size w wx from HB4.out.trans (HB.out.1.below (B := w.heap.size) (fun i e => by have := HN0.out; omega) (by have := HN0.out; have := HN2.out; have := HN4.out; omega)))
    clear HU43 HU40 HUn7 HUn8 h7 hrf HL HB
    obtain ⟨ja, jm, jc, rfl⟩ := own_shape HRL.out.keys
    obtain ⟨ea, em, ec, rfl⟩ := own_shape HRL.out.decs
    go_wp2_with fail
    have e0 : wx.cell? ⟨w.heap.size + 1, 0, none⟩ = some (.int .i64 s.size) := HR7.out.cell 0
    have e1 : wx.cell? ⟨w.heap.size + 1, 1, none⟩ = some (.int .i64 s.seq) := HR7.out.cell 1
    have e2 : wx.cell? ⟨w.heap.size + 1, 2, none⟩ = some (.slice ja jm jc) := HR7.out.cell 2
    have e3 : wx.cell? ⟨w.heap.size + 1, 3, none⟩ = some (.slice ea em ec) := HR7.out.cell 3
    have e4 : wx.cell? ⟨w.heap.size + 1, 4, none⟩ = some (.int .i64 (s.h + 1)) := HR7.out.cell 4
    have e5 : wx.cell? ⟨w.heap.size + 1, 5, none⟩ = some (.int .i64 s.m) := HR7.out.cell 5
    have e6 : wx.cell? ⟨w.heap.size + 1, 6, none⟩ = some (.int .i64 s.e) := HR7.out.cell 6
    have e7 : wx.cell? ⟨w.heap.size + 1, 7, none⟩ = some (.int .i64 s.r) := HR7.out.cell 7
    have f0 : wx.cell? ⟨w.heap.size + 1 + 1, 0, none⟩ = some (.int .u32 d.allowed) := HR9L.out.cell 0
    have f1 : wx.cell? ⟨w.heap.size + 1 + 1, 1, none⟩ = some (.int .u32 d.auditAllow) := HR9L.out.cell 1
    have f2 : wx.cell? ⟨w.heap.size + 1 + 1, 2, none⟩ = some (.int .u32 d.auditDeny) := HR9L.out.cell 2
    have f3 : wx.cell? ⟨w.heap.size + 1 + 1, 3, none⟩ = some (.bool d.permissive) := HR9L.out.cell 3
    have f4 : wx.cell? ⟨w.heap.size + 1 + 1, 4, none⟩ = some (.int .i64 d.seq) := HR9L.out.cell 4
    refine bodyPost_ret (v := .tuple #[.agg #[.int .i64 s.size, .int .i64 s.seq, .slice ja jm jc, .slice ea em ec, .int .i64 (s.h + 1), .int .i64 s.m, .int .i64 s.e, .int .i64 s.r], .agg #[.int .u32 d.allowed, .int .u32 d.auditAllow, .int .u32 d.auditDeny, .bool d.permissive, .int .i64 d.seq], .bool true]) ?_ rfl ⟨_, _, rfl, HRL.out, HK.out, HDW.out, HT1.out, HT2.out, HBL.out⟩
    simp [results, Try.results27, go_sem, e0, e1, e2, e3, e4, e5, e6, e7, f0, f1, f2, f3, f4]
end Go.Proofs.Ytcdhjcjdphnleaa
