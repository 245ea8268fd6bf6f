import Derived.Test.YtcdhjcjdphnleaaZB
import Derived.Test.YtcdhjcjdphnleaaZW
import Derived.Test.YtcdhjcjdphnleaaZD
import Derived.Deep.DeepCutAuto
namespace Go.Proofs.Ytcdhjcjdphnleaa
open Go Go.WideMaps Go.RowKit

/-- A slice's block is not older than this. -/
def NewRow (n : Nat) (v : Value) : Prop := ∀ g, v.ownBlock = some g → n ≤ g
theorem upd_ne' {i j : Nat} (L : Nat → Bool) (h : j ≠ i) : upd L i j = L j := by
  unfold upd
  have : (j == i) = false := by simpa using h
  rw [this, Bool.false_or]
theorem own_shape {w : World} {v : Value} {k n : Nat} {cs : List Value} (h : SliceAt w v k n cs) : ∃ a m c, v = .slice a m c := by
  rcases h.2.2.2 with ⟨rfl, _⟩ | ⟨a, c, rfl, _⟩
  · exact ⟨_, _, _, rfl⟩
  · exact ⟨_, _, _, rfl⟩
theorem Tch.drewR {w w' : World} {F : Nat → Prop} (h : Tch w w' F) : Tch w w'.drew F := ⟨h.os, h.tape, h.output, h.size, h.block⟩
theorem whole_three (w : World) (o o2 : Obj) (cs : Array Value) (t : TypeId) : Whole (((w.alloc o).alloc o2).alloc (.cells cs t)) (w.heap.size + 2) t cs := by
  have := Whole.new ((w.alloc o).alloc o2) t cs
  simpa using this
theorem info46 : infoB (Try.prog.info? 46) 5 24 = true := by kernel_rfl
theorem whole_four (w : World) (o o2 o3 : Obj) (cs : Array Value) (t : TypeId) : Whole ((((w.alloc o).alloc o2).alloc o3).alloc (.cells cs t)) (w.heap.size + 3) t cs := by
  have := Whole.new (((w.alloc o).alloc o2).alloc o3) t cs
  simpa using this
theorem whole_five (w : World) (o o2 o3 o4 : Obj) (cs : Array Value) (t : TypeId) : Whole (((((w.alloc o).alloc o2).alloc o3).alloc o4).alloc (.cells cs t)) (w.heap.size + 4) t cs := by
  have := Whole.new ((((w.alloc o).alloc o2).alloc o3).alloc o4) t cs
  simpa using this

set_option maxHeartbeats 2000000 in
theorem used_any (w : World) (s : St) (ka da : Option Addr) (kc dc : Nat) (k : Key) (d : Dec) (h : RefAt w (.slice ka s.D.length kc) (.slice da s.D.length dc) s) (hbig : s.D.length ≤ 2000) :
    Calls Try.prog 39 #[.agg #[.int .i64 s.size, .int .i64 s.seq, .slice ka s.D.length kc, .slice da s.D.length dc, .int .i64 s.h, .int .i64 s.m, .int .i64 s.e, .int .i64 s.r], .agg #[.int .i64 k.a, .int .i64 k.b, .int .i64 k.c], .agg #[.int .u32 d.allowed, .int .u32 d.auditAllow, .int .u32 d.auditDeny, .bool d.permissive, .int .i64 d.seq]] w fun e w' => ∃ kv dv, e = .returned (.agg #[.int .i64 s.size, .int .i64 s.seq, kv, dv, .int .i64 s.h, .int .i64 s.m, .int .i64 s.e, .int .i64 s.r]) ∧ RefAt w' kv dv {s with D := (k, d) :: s.D} ∧ NewRow w.heap.size kv ∧ NewRow w.heap.size dv ∧ TyRow w' 41 kv ∧ TyRow w' 46 dv ∧ Below w.heap.size w w' := by
  have HRF := Lib.hid h
  have HBIG := Lib.hid hbig
  clear h hbig
  obtain ⟨wo, hwo⟩ : ∃ wo, wo = (((w.alloc (.cells #[.int .i64 s.size, .int .i64 s.seq, .slice ka s.D.length kc, .slice da s.D.length dc, .int .i64 s.h, .int .i64 s.m, .int .i64 s.e, .int .i64 s.r] 29)).alloc (.cells #[.int .i64 k.a, .int .i64 k.b, .int .i64 k.c] 41)).alloc (.cells #[.int .u32 d.allowed, .int .u32 d.auditAllow, .int .u32 d.auditDeny, .bool d.permissive, .int .i64 d.seq] 46)).alloc (.cells #[.int .i64 0, .int .i64 0, .slice none 0 0, .slice none 0 0, .int .i64 0, .int .i64 0, .int .i64 0, .int .i64 0] 29) := ⟨_, rfl⟩
  have HS0 := Lib.hid (show Whole wo w.heap.size 29 #[.int .i64 s.size, .int .i64 s.seq, .slice ka s.D.length kc, .slice da s.D.length dc, .int .i64 s.h, .int .i64 s.m, .int .i64 s.e, .int .i64 s.r] by rw [hwo]; exact (((Whole.new w 29 #[.int .i64 s.size, .int .i64 s.seq, .slice ka s.D.length kc, .slice da s.D.length dc, .int .i64 s.h, .int .i64 s.m, .int .i64 s.e, .int .i64 s.r]).alloc _).alloc _).alloc _)
  have HK0 := Lib.hid (show Whole wo (w.heap.size + 1) 41 #[.int .i64 k.a, .int .i64 k.b, .int .i64 k.c] by rw [hwo]; exact ((whole_two w _ #[.int .i64 k.a, .int .i64 k.b, .int .i64 k.c] _).alloc _).alloc _)
  have HD0 := Lib.hid (show Whole wo (w.heap.size + 2) 46 #[.int .u32 d.allowed, .int .u32 d.auditAllow, .int .u32 d.auditDeny, .bool d.permissive, .int .i64 d.seq] by rw [hwo]; exact (whole_three w _ _ #[.int .u32 d.allowed, .int .u32 d.auditAllow, .int .u32 d.auditDeny, .bool d.permissive, .int .i64 d.seq] _).alloc _)
  have HBO := Lib.hid (show Below w.heap.size w wo by rw [hwo]; exact ((((Below.refl _ w).alloc (Nat.le_refl _) _).alloc (by simp) _).alloc (by simp; omega) _).alloc (by simp; omega) _)
  have HN0 := Lib.hid (show wo.heap.size = w.heap.size + 4 by rw [hwo]; simp)
  have H60 := Lib.hid (show Whole wo (w.heap.size + 3) 29 #[.int .i64 0, .int .i64 0, .slice none 0 0, .slice none 0 0, .int .i64 0, .int .i64 0, .int .i64 0, .int .i64 0] by rw [hwo]; exact whole_four w _ _ _ #[.int .i64 0, .int .i64 0, .slice none 0 0, .slice none 0 0, .int .i64 0, .int .i64 0, .int .i64 0, .int .i64 0] _)
  go_enter Try.func39, Try.ntmps39
  go_upto_region 1 with (fail)
  rw [← hwo]
  clear hwo
  go_wp2_with (first | (refine wpList_load_row rfl 29 _ rfl w.heap.size rfl 29 _ (0, 0) _ HS0.out Try.underlying29 rfl size29 ?_) | (refine wpList_store_blk rfl 29 _ _ rfl wo.heap.size 0 (.agg #[.int .i64 s.size, .int .i64 s.seq, .slice ka s.D.length kc, .slice da s.D.length dc, .int .i64 s.h, .int .i64 s.m, .int .i64 s.e, .int .i64 s.r]) rfl rfl 29 _ (Whole.new wo 29 _) (by simp [Value.cells]) size29 rfl ?_; intro w1 S1 W1; have H7 := Lib.hid (show Whole w1 wo.heap.size 29 #[.int .i64 s.size, .int .i64 s.seq, .slice ka s.D.length kc, .slice da s.D.length dc, .int .i64 s.h, .int .i64 s.m, .int .i64 s.e, .int .i64 s.r] from W1); have HS1 := Lib.hid S1; clear S1 W1))
  have HKB := Lib.hid (HS1.out.whole (HK0.out.alloc _) (by have := HN0.out; omega))
  have HDB := Lib.hid (HS1.out.whole (HD0.out.alloc _) (by have := HN0.out; omega))
  refine wp_region_goods [some 9, some 10, some 11, some 12, some 13, none, some 14] [isW (.agg #[.int .i64 k.a, .int .i64 k.b, .int .i64 k.c]), fun L u w' => ∃ g, u = .slice (some ⟨g, 0, none⟩) 1 1 ∧ w1.heap.size ≤ g ∧ Whole w' g 41 #[.int .i64 k.a, .int .i64 k.b, .int .i64 k.c] ∧ L 1 = true ∧ (L 5 = true → Whole w' (wo.heap.size) 29 #[.int .i64 s.size, .int .i64 s.seq, u, .slice da s.D.length dc, .int .i64 s.h, .int .i64 s.m, .int .i64 s.e, .int .i64 s.r]), isW (.agg #[.int .u32 d.allowed, .int .u32 d.auditAllow, .int .u32 d.auditDeny, .bool d.permissive, .int .i64 d.seq]), fun _ u w' => ∃ g, u = .slice (some ⟨g, 0, none⟩) 1 1 ∧ w1.heap.size ≤ g ∧ Whole w' g 46 #[.int .u32 d.allowed, .int .u32 d.auditAllow, .int .u32 d.auditDeny, .bool d.permissive, .int .i64 d.seq], isW (.pointer (some ⟨wo.heap.size, 2, none⟩)), fun _ _ _ => True, isW (.pointer (some ⟨wo.heap.size, 3, none⟩))] (fun L w' => Tch w1 w' (fun i => i = wo.heap.size) ∧ (L 5 = false → Whole w' (wo.heap.size) 29 #[.int .i64 s.size, .int .i64 s.seq, .slice ka s.D.length kc, .slice da s.D.length dc, .int .i64 s.h, .int .i64 s.m, .int .i64 s.e, .int .i64 s.r]) ∧ (L 5 = true → L 1 = true)) [5] (by kernel_rfl) (by kernel_rfl) (by kernel_rfl) rfl (by decide) rfl rfl (⟨(Tch.refl _ _).drewR, fun _ => H7.out, fun h => by cases h⟩) ⟨lastsW_is _, (fun L i v w' w'' hi ⟨g, h1, h2, h3, h6, h4⟩ hb => ⟨g, h1, h2, Whole.under hb h3 h3.lt, by simp [upd, h6], fun h => by have h5 := h4 (by rcases Bool.or_eq_true_iff.1 h with e | e; (have e' : (5 : Nat) = i := by simpa using e); subst e'; simp at hi; exact e); exact Whole.under hb h5 h5.lt⟩), lastsW_is _, (fun L i v w' w'' hi ⟨g, h1, h2, h3⟩ hb => ⟨g, h1, h2, Whole.under hb h3 h3.lt⟩), lastsW_is _, (fun _ _ _ _ _ _ _ _ => trivial), lastsW_is _, trivial⟩ ⟨?_, ?_, ?_, ?_, ?_, ?_, ?_, ?_⟩
  · intro L a wx Q' hL hi H F hK
    try dsimp only at hi
    have h4 : a.tmps[4]? = some (.pointer (some ⟨w.heap.size + 1, 0, none⟩)) := F 4 rfl
    have HI := Lib.hid hi
    clear H F hi hL
    have kq0 : wx.cell? ⟨w.heap.size + 1, 0, none⟩ = some (.int .i64 k.a) := (HI.out.1.whole HKB.out (by have := HN0.out; omega)).cell 0
    have kq1 : wx.cell? ⟨w.heap.size + 1, 1, none⟩ = some (.int .i64 k.b) := (HI.out.1.whole HKB.out (by have := HN0.out; omega)).cell 1
    have kq2 : wx.cell? ⟨w.heap.size + 1, 2, none⟩ = some (.int .i64 k.c) := (HI.out.1.whole HKB.out (by have := HN0.out; omega)).cell 2
    go_wp2_with fail
    exact hK _ _ (Below.refl _ _) HI.out rfl
  · intro L a wx Q' hL hi H F hK
    try dsimp only at hi
    obtain ⟨_, h9, rfl⟩ := H 0 ⟨.data, by simp, rfl⟩ _ rfl
    replace h9 := h9 _ rfl
    have HI := Lib.hid hi
    clear H F hi
    go_wp2_with fail
    have hn := Whole.new wx 41 #[.int .i64 k.a, .int .i64 k.b, .int .i64 k.c]
    have hb := (Below.refl wx.heap.size wx).alloc (Nat.le_refl _) (.cells #[.int .i64 k.a, .int .i64 k.b, .int .i64 k.c] 41)
    exact hK _ _ hb ⟨HI.out.1.trans (Tch.of_below hb (Nat.le_refl _)), fun h => Whole.under hb (HI.out.2.1 h) (HI.out.2.1 h).lt, fun _ => by simp [upd]⟩ ⟨wx.heap.size, rfl, HI.out.1.size, hn, by simp [upd], fun h => by rw [upd_ne' _ (show (5 : Nat) ≠ 1 by decide)] at h; rw [HI.out.2.2 h] at hL; cases hL⟩
  · intro L a wx Q' hL hi H F hK
    try dsimp only at hi
    have h5 : a.tmps[5]? = some (.pointer (some ⟨w.heap.size + 2, 0, none⟩)) := F 5 rfl
    have HI := Lib.hid hi
    clear H F hi hL
    have kq0 : wx.cell? ⟨w.heap.size + 2, 0, none⟩ = some (.int .u32 d.allowed) := (HI.out.1.whole HDB.out (by have := HN0.out; omega)).cell 0
    have kq1 : wx.cell? ⟨w.heap.size + 2, 1, none⟩ = some (.int .u32 d.auditAllow) := (HI.out.1.whole HDB.out (by have := HN0.out; omega)).cell 1
    have kq2 : wx.cell? ⟨w.heap.size + 2, 2, none⟩ = some (.int .u32 d.auditDeny) := (HI.out.1.whole HDB.out (by have := HN0.out; omega)).cell 2
    have kq3 : wx.cell? ⟨w.heap.size + 2, 3, none⟩ = some (.bool d.permissive) := (HI.out.1.whole HDB.out (by have := HN0.out; omega)).cell 3
    have kq4 : wx.cell? ⟨w.heap.size + 2, 4, none⟩ = some (.int .i64 d.seq) := (HI.out.1.whole HDB.out (by have := HN0.out; omega)).cell 4
    go_wp2_with fail
    exact hK _ _ (Below.refl _ _) HI.out rfl
  · intro L a wx Q' hL hi H F hK
    try dsimp only at hi
    obtain ⟨_, h11, rfl⟩ := H 2 ⟨.data, by simp, rfl⟩ _ rfl
    replace h11 := h11 _ rfl
    have HI := Lib.hid hi
    clear H F hi hL
    go_wp2_with fail
    have hn := Whole.new wx 46 #[.int .u32 d.allowed, .int .u32 d.auditAllow, .int .u32 d.auditDeny, .bool d.permissive, .int .i64 d.seq]
    have hb := (Below.refl wx.heap.size wx).alloc (Nat.le_refl _) (.cells #[.int .u32 d.allowed, .int .u32 d.auditAllow, .int .u32 d.auditDeny, .bool d.permissive, .int .i64 d.seq] 46)
    exact hK _ _ hb ⟨HI.out.1.trans (Tch.of_below hb (Nat.le_refl _)), fun h => Whole.under hb (HI.out.2.1 h) (HI.out.2.1 h).lt, HI.out.2.2⟩ ⟨wx.heap.size, rfl, HI.out.1.size, hn⟩
  · intro L a wx Q' hL hi H F hK
    try dsimp only at hi
    have h7 : a.tmps[7]? = some (.pointer (some ⟨wo.heap.size, 0, none⟩)) := F 7 rfl
    have HI := Lib.hid hi
    clear H F hi hL
    go_wp2_with fail
    exact hK _ _ (Below.refl _ _) HI.out rfl
  · intro L a wx Q' hL hi H F hK
    try dsimp only at hi
    obtain ⟨v10, h10, hv10⟩ := H 1 ⟨.data, by simp, rfl⟩ _ rfl
    replace h10 := h10 _ rfl
    have HV10 := Lib.hid hv10
    clear hv10
    obtain ⟨_, h13, rfl⟩ := H 4 ⟨.data, by simp, rfl⟩ _ rfl
    replace h13 := h13 _ rfl
    have HI := Lib.hid hi
    clear H F hi
    obtain ⟨g, rfl, hg, hw, hl1, -⟩ := HV10.out
    have HW7 := Lib.hid (HI.out.2.1 hL)
    have hlt7 := H7.out.lt
    clear HV10
    refine wpList_store_blk rfl 26 _ _ rfl (wo.heap.size) 2 (.slice (some ⟨g, 0, none⟩) 1 1) (by simp [Act.eval, *]) (by simp [Act.eval, *]) 29 _ HW7.out (by simp [Value.cells]) size26 rfl ?_
    intro w2 S2 W2
    exact hK undef w2 (show KeepAll _ _ _ _ _ _ _ _ from ⟨(fun _ _ _ _ h => h), (fun _ _ v hv ⟨g', h1, h2, h3, h6, h4⟩ => by have e := Option.some.inj ((hv 10 rfl).symm.trans h10); subst e; exact ⟨g', h1, h2, S2.whole h3 (by omega), h6, fun _ => W2⟩), (fun _ _ _ _ h => h), (fun _ _ v _ ⟨g', h1, h2, h3⟩ => ⟨g', h1, h2, S2.whole h3 (by omega)⟩), (fun _ _ _ _ h => h), (fun h => absurd rfl h), (fun _ _ _ _ h => h), trivial⟩) ⟨HI.out.1.trans (Tch.of_sto S2 rfl), fun h => by simp [upd] at h, fun _ => by rw [upd_ne' _ (show (1 : Nat) ≠ 5 by decide)]; exact hl1⟩ trivial
  · intro L a wx Q' hL hi H F hK
    try dsimp only at hi
    have h7 : a.tmps[7]? = some (.pointer (some ⟨wo.heap.size, 0, none⟩)) := F 7 rfl
    have HI := Lib.hid hi
    clear H F hi hL
    go_wp2_with fail
    exact hK _ _ (Below.refl _ _) HI.out rfl
  · intro a wx L hl hi hL Q' hK
    try dsimp only at hi
    have HB := Lib.hid hi
    have HL := Lib.hid hL
    clear hi hL
    obtain ⟨_, rfl, u10, hu10, _, rfl, u12, hu12, _, rfl, un5, hun5, _, rfl, rfl⟩ := hl
    have HU10 := Lib.hid hu10
    clear hu10
    have HU12 := Lib.hid hu12
    clear hu12
    have HUn5 := Lib.hid hun5
    clear hun5
    simp only [List.setIfInBounds_toArray, List.set_cons_zero, List.set_cons_succ]
    obtain ⟨g1, rfl, hg1, hw1, -, hr2⟩ := HU10.out
    obtain ⟨g3, rfl, hg3, hw3⟩ := HU12.out
    have HR2 := Lib.hid (hr2 (HL.out 5 (by decide)))
    have HG1 := Lib.hid (And.intro hg1 hw1)
    have HG3 := Lib.hid (And.intro hg3 hw3)
    clear HU10 HU12 HUn5 hg1 hw1 hr2 hg3 hw3 HL
    go_wp2_with (first | (refine wpList_store_blk rfl 27 _ _ rfl (wo.heap.size) 3 (.slice (some ⟨g3, 0, none⟩) 1 1) rfl rfl 29 _ HR2.out (by simp [Value.cells]) size27 rfl ?_; intro w8 S8 W8; have HS8 := Lib.hid S8; have HW8 := Lib.hid (show Whole w8 (wo.heap.size) 29 #[.int .i64 s.size, .int .i64 s.seq, .slice (some ⟨g1, 0, none⟩) 1 1, .slice (some ⟨g3, 0, none⟩) 1 1, .int .i64 s.h, .int .i64 s.m, .int .i64 s.e, .int .i64 s.r] from W8); clear S8 W8; have hB8 : Below w.heap.size w w8 := HBO.out.trans (((((Below.refl wo.heap.size wo).alloc (Nat.le_refl _) _).trans (HS1.out.below (Nat.le_refl _))).mono (by have := HN0.out; omega)).trans ((HB.out.1.below (B := w.heap.size) (fun i e => by have := HN0.out; omega) (by have := HN0.out; have := H7.out.lt; omega)).trans (HS8.out.below (by have := HN0.out; omega)))); have HB8 := Lib.hid hB8; have HG18 := Lib.hid (HS8.out.whole HG1.out.2 (by have := HG1.out.1; have := H7.out.lt; omega)); have HG38 := Lib.hid (HS8.out.whole HG3.out.2 (by have := HG3.out.1; have := H7.out.lt; omega)); obtain ⟨kv1, w9, hap1, hsl1, hob1, hty1, hbl1⟩ := append_one Try.underlying26 info41 (by decide) w8 g1 k.cells (.slice ka s.D.length kc) s.D.length (flat s.keys) HG18.out rfl (fun u hu => flat_one [k] u (by simpa [flat] using hu)) (HRF.out.keys.keep hB8) HBIG.out; obtain ⟨xa, xn, xc, hxx⟩ := own_shape hsl1; subst hxx; have HSL1 := Lib.hid hsl1; have HBL1 := Lib.hid hbl1; have HOB1 := Lib.hid hob1; have HTY1 := Lib.hid hty1; have m2 : w8.cell? ⟨wo.heap.size, 2, none⟩ = some (.slice (some ⟨g1, 0, none⟩) 1 1) := HW8.out.cell 2; have m3 : w8.cell? ⟨w.heap.size, 2, none⟩ = some (.slice ka s.D.length kc) := (HS8.out.whole (HB.out.1.whole (HS1.out.whole (HS0.out.alloc _) (by have := HN0.out; omega)) (by have := HN0.out; omega)) (by have := HN0.out; omega)).cell 2; have HSB8 := Lib.hid (HS8.out.whole (HB.out.1.whole (HS1.out.whole (HS0.out.alloc _) (by have := HN0.out; omega)) (by have := HN0.out; omega)) (by have := HN0.out; omega)); have H68 := Lib.hid (HS8.out.whole (HB.out.1.whole (HS1.out.whole (H60.out.alloc _) (by have := HN0.out; omega)) (by have := HN0.out; omega)) (by have := HN0.out; omega)); clear hsl1 hob1 hty1 hbl1 hB8) | (at_builtin; refine Lib.wpList_append_run _ rfl _ _ _ _ rfl _ _ rfl rfl _ _ (hap1 _) ?_; have HW9 := Lib.hid (Whole.under HBL1.out HW8.out HW8.out.lt); clear hap1 m2 m3) | (refine wpList_store_blk rfl 26 _ _ rfl (wo.heap.size) 2 (.slice xa xn xc) rfl rfl 29 _ HW9.out (by simp [Value.cells]) size26 rfl ?_; intro w10 S10 W10; have HS10 := Lib.hid S10; have HW10 := Lib.hid (show Whole w10 (wo.heap.size) 29 #[.int .i64 s.size, .int .i64 s.seq, .slice xa xn xc, .slice (some ⟨g3, 0, none⟩) 1 1, .int .i64 s.h, .int .i64 s.m, .int .i64 s.e, .int .i64 s.r] from W10); clear S10 W10; have hs9 : w.heap.size + 5 ≤ w9.heap.size := (by have h1 := HBL1.out.size; have h2 := HW8.out.lt; have h3 := HN0.out; omega); have hB10 : Below w.heap.size w w10 := HB8.out.trans ((HBL1.out.mono HB8.out.size).trans (HS10.out.below (by have := HN0.out; omega))); have HB10 := Lib.hid hB10; have HG310 := Lib.hid (HS10.out.whole (Whole.under HBL1.out HG38.out HG38.out.lt) (by have := HG3.out.1; have := H7.out.lt; omega)); obtain ⟨dv1, w11, hap2, hsl2, hob2, hty2, hbl2⟩ := append_one Try.underlying27 info46 (by decide) w10 g3 d.row (.slice da s.D.length dc) s.D.length ((s.D.map Prod.snd).flatMap Dec.row) HG310.out rfl (by intro u hu; simp [Dec.row] at hu; rcases hu with rfl | rfl | rfl | rfl | rfl <;> rfl) (HRF.out.decs.keep hB10) HBIG.out; obtain ⟨ya, yn, yc, hyy⟩ := own_shape hsl2; subst hyy; have HSL2 := Lib.hid hsl2; have HBL2 := Lib.hid hbl2; have HOB2 := Lib.hid hob2; have HTY2 := Lib.hid hty2; have m2 : w10.cell? ⟨wo.heap.size, 3, none⟩ = some (.slice (some ⟨g3, 0, none⟩) 1 1) := HW10.out.cell 3; have m3 : w10.cell? ⟨w.heap.size, 3, none⟩ = some (.slice da s.D.length dc) := (HS10.out.whole (Whole.under HBL1.out HSB8.out HSB8.out.lt) (by have := HN0.out; omega)).cell 3; clear hsl2 hob2 hty2 hbl2 hB10 hs9) | (at_builtin; refine Lib.wpList_append_run _ rfl _ _ _ _ rfl _ _ rfl rfl _ _ (hap2 _) ?_; have HW11 := Lib.hid (Whole.under HBL2.out HW10.out HW10.out.lt); clear hap2 m2 m3) | (refine wpList_store_blk rfl 27 _ _ rfl (wo.heap.size) 3 (.slice ya yn yc) rfl rfl 29 _ HW11.out (by simp [Value.cells]) size27 rfl ?_; intro w12 S12 W12; have HS12 := Lib.hid S12; have HW12 := Lib.hid (show Whole w12 (wo.heap.size) 29 #[.int .i64 s.size, .int .i64 s.seq, .slice xa xn xc, .slice ya yn yc, .int .i64 s.h, .int .i64 s.m, .int .i64 s.e, .int .i64 s.r] from W12); clear S12 W12) | (refine wpList_load_row rfl 29 _ rfl (wo.heap.size) rfl 29 _ (0, 0) _ HW12.out Try.underlying29 rfl size29 ?_) | (refine wpList_store_blk rfl 29 _ _ rfl (w.heap.size + 3) 0 (.agg #[.int .i64 s.size, .int .i64 s.seq, .slice xa xn xc, .slice ya yn yc, .int .i64 s.h, .int .i64 s.m, .int .i64 s.e, .int .i64 s.r]) rfl rfl 29 _ (HS12.out.whole (Whole.under HBL2.out (HS10.out.whole (Whole.under HBL1.out H68.out H68.out.lt) (by have := HN0.out; omega)) (HS10.out.whole (Whole.under HBL1.out H68.out H68.out.lt) (by have := HN0.out; omega)).lt) (by have := HN0.out; omega)) (by simp [Value.cells]) size29 rfl ?_; intro w14 S14 W14; have HS14 := Lib.hid S14; have HW14 := Lib.hid (show Whole w14 (w.heap.size + 3) 29 #[.int .i64 s.size, .int .i64 s.seq, .slice xa xn xc, .slice ya yn yc, .int .i64 s.h, .int .i64 s.m, .int .i64 s.e, .int .i64 s.r] from W14); clear S14 W14))
    have e0 : w14.cell? ⟨w.heap.size + 1 + 1 + 1, 0, none⟩ = some (.int .i64 s.size) := HW14.out.cell 0
    have e1 : w14.cell? ⟨w.heap.size + 1 + 1 + 1, 1, none⟩ = some (.int .i64 s.seq) := HW14.out.cell 1
    have e2 : w14.cell? ⟨w.heap.size + 1 + 1 + 1, 2, none⟩ = some (.slice xa xn xc) := HW14.out.cell 2
    have e3 : w14.cell? ⟨w.heap.size + 1 + 1 + 1, 3, none⟩ = some (.slice ya yn yc) := HW14.out.cell 3
    have e4 : w14.cell? ⟨w.heap.size + 1 + 1 + 1, 4, none⟩ = some (.int .i64 s.h) := HW14.out.cell 4
    have e5 : w14.cell? ⟨w.heap.size + 1 + 1 + 1, 5, none⟩ = some (.int .i64 s.m) := HW14.out.cell 5
    have e6 : w14.cell? ⟨w.heap.size + 1 + 1 + 1, 6, none⟩ = some (.int .i64 s.e) := HW14.out.cell 6
    have e7 : w14.cell? ⟨w.heap.size + 1 + 1 + 1, 7, none⟩ = some (.int .i64 s.r) := HW14.out.cell 7
    have q1 : wo.heap.size < w1.heap.size := H7.out.lt
    have q2 := HB.out.1.size
    have q3 := HS8.out.size
    have q4 := HBL1.out.size
    have q5 := HS10.out.size
    have q6 := HG1.out.1
    have q7 := HG3.out.1
    have q8 := HN0.out
    have hk := HS14.out.slice (HS12.out.slice ((HS10.out.slice HSL1.out (by intro e; have := HOB1.out _ e; omega)).keep HBL2.out) (by intro e; have := HOB1.out _ e; omega)) (by intro e; have := HOB1.out _ e; omega)
    have hd := HS14.out.slice (HS12.out.slice HSL2.out (by intro e; have := HOB2.out _ e; omega)) (by intro e; have := HOB2.out _ e; omega)
    have hbl : Below w.heap.size w w14 := ((HB10.out.trans (HBL2.out.mono (by omega))).trans (HS12.out.below (by omega))).trans (HS14.out.below (by omega))
    have ty1 : TyRow w14 41 (.slice xa xn xc) := fun g e => by
      obtain ⟨cs, hcs⟩ := HTY1.out g e
      have h1 := HOB1.out _ e
      have h2 := HS10.out.whole hcs (by omega)
      exact ⟨cs, HS14.out.whole (HS12.out.whole (Whole.under HBL2.out h2 h2.lt) (by omega)) (by omega)⟩
    have ty2 : TyRow w14 46 (.slice ya yn yc) := fun g e => by
      obtain ⟨cs, hcs⟩ := HTY2.out g e
      have h1 := HOB2.out _ e
      exact ⟨cs, HS14.out.whole (HS12.out.whole hcs (by omega)) (by omega)⟩
    refine bodyPost_ret (v := .agg #[.int .i64 s.size, .int .i64 s.seq, .slice xa xn xc, .slice ya yn yc, .int .i64 s.h, .int .i64 s.m, .int .i64 s.e, .int .i64 s.r]) ?_ rfl ⟨_, _, rfl, ⟨?_, ?_⟩, fun g e => (by have := HOB1.out _ e; omega), fun g e => (by have := HOB2.out _ e; omega), ty1, ty2, hbl⟩
    · simp [results, Try.results39, go_sem, e0, e1, e2, e3, e4, e5, e6, e7]
    · have := hk
      rw [Nat.add_comm] at this
      exact this
    · have := hd
      rw [Nat.add_comm] at this
      exact this
end Go.Proofs.Ytcdhjcjdphnleaa
