import Derived.Test.YtmkfabdkadocdaaDoorI
import Derived.Sort.Grow
/-
  A world that has only grown; expand.before.
-/
namespace Go.Proofs.YtmkfabdkadocdaaDoor
open Go Go.RowKit

/-- Draws, and blocks behind. -/
def Grows (w w' : World) : Prop := ∃ q os, w' = Sort.grow (w.drewN q) os
theorem Grows.refl (w : World) : Grows w w := ⟨0, #[], by rw [Sort.grow_empty]; rfl⟩
theorem Grows.drewN {w w' : World} (h : Grows w w') (n : Nat) : Grows w (w'.drewN n) := by
  obtain ⟨q, os, rfl⟩ := h
  exact ⟨q + n, os, by simp [Sort.grow, World.drewN, Nat.add_assoc]⟩
theorem Grows.drew {w w' : World} (h : Grows w w') : Grows w w'.drew := h.drewN 1
theorem Grows.alloc {w w' : World} (h : Grows w w') (o : Obj) : Grows w (w'.alloc o) := by
  obtain ⟨q, os, rfl⟩ := h
  exact ⟨q, os ++ #[o], by rw [Sort.alloc_eq_grow, Sort.grow_grow]⟩
theorem Grows.trans {a b c : World} (h : Grows a b) (k : Grows b c) : Grows a c := by
  obtain ⟨q, os, rfl⟩ := k
  obtain ⟨q', os', h'⟩ := h.drewN q
  exact ⟨q', os' ++ os, by rw [h', Sort.grow_grow]⟩
theorem Grows.below {w w' : World} (h : Grows w w') : Below w.heap.size w w' := by
  obtain ⟨q, os, rfl⟩ := h
  refine ⟨rfl, rfl, rfl, by simp [Sort.grow, World.drewN], fun k hk => ?_⟩
  show (w.heap ++ os)[k]? = w.heap[k]?
  exact Array.getElem?_append_left hk
theorem row_ints {w : World} {g : Nat} {l : List Int} (hl : l.length ≤ 100) (h : Whole w g 3 (l.map anInt).toArray) : SliceAt w (.slice (some ⟨g, 0, none⟩) l.length l.length) 1 l.length (l.map anInt) := by
  refine ⟨by simp, by unfold maxLen; omega, fun u hu => ?_, .inr ⟨_, _, rfl, Nat.le_refl _, fun j u hj => ?_⟩⟩
  · obtain ⟨x, -, rfl⟩ := List.mem_map.1 hu
    rfl
  · rw [Addr.add_lit, Nat.zero_add]
    exact (h.cell j).trans (by rw [← Array.getElem?_toList]; exact hj)

def beforeI (x y : AEntry) : Int := orI [cmpI x.src y.src, cmpI x.tgt y.tgt, cmpI x.cls y.cls, cmpI x.cond y.cond]
set_option maxHeartbeats 4000000 in
theorem before_any (w : World) (x y : AEntry) : Calls Tryd.prog 52 #[.agg #[.int .i64 x.src, .int .i64 x.tgt, .int .i64 x.cls, .int .i64 x.cond, .int .u32 x.allow, .int .u32 x.audit, .int .u32 x.dont], .agg #[.int .i64 y.src, .int .i64 y.tgt, .int .i64 y.cls, .int .i64 y.cond, .int .u32 y.allow, .int .u32 y.audit, .int .u32 y.dont]] w fun e w' => e = .returned (.int .i64 (beforeI x y)) ∧ Grows w w' := by
  unfold beforeI
  obtain ⟨wo, hwo⟩ : ∃ wo, wo = (w.alloc (.cells #[.int .i64 x.src, .int .i64 x.tgt, .int .i64 x.cls, .int .i64 x.cond, .int .u32 x.allow, .int .u32 x.audit, .int .u32 x.dont] 61)).alloc (.cells #[.int .i64 y.src, .int .i64 y.tgt, .int .i64 y.cls, .int .i64 y.cond, .int .u32 y.allow, .int .u32 y.audit, .int .u32 y.dont] 61) := ⟨_, rfl⟩
  have HX := Lib.hid (show Whole wo w.heap.size 61 #[.int .i64 x.src, .int .i64 x.tgt, .int .i64 x.cls, .int .i64 x.cond, .int .u32 x.allow, .int .u32 x.audit, .int .u32 x.dont] by rw [hwo]; exact (Whole.new w 61 #[.int .i64 x.src, .int .i64 x.tgt, .int .i64 x.cls, .int .i64 x.cond, .int .u32 x.allow, .int .u32 x.audit, .int .u32 x.dont]).alloc _)
  have HY := Lib.hid (show Whole wo (w.heap.size + 1) 61 #[.int .i64 y.src, .int .i64 y.tgt, .int .i64 y.cls, .int .i64 y.cond, .int .u32 y.allow, .int .u32 y.audit, .int .u32 y.dont] by rw [hwo]; exact whole_two w _ #[.int .i64 y.src, .int .i64 y.tgt, .int .i64 y.cls, .int .i64 y.cond, .int .u32 y.allow, .int .u32 y.audit, .int .u32 y.dont] _)
  have HG := Lib.hid (show Grows w wo by rw [hwo]; exact ((Grows.refl w).alloc _).alloc _)
  go_enter Tryd.func52, Tryd.ntmps52
  go_upto_region 1 with (fail)
  rw [← hwo]
  clear hwo
  refine wp_region_last (fun w w' => Below w.heap.size w w') [some 5, some 6, some 7, some 8, some 9, some 10, some 11, some 12, some 13, some 14, some 15, some 16, some 17, some 18, some 19, some 20, some 21, some 22, some 23, some 24, some 25, some 26] [isV (.pointer (some ⟨w.heap.size, 0, none⟩)), isV (.int .i64 x.src), isV (.pointer (some ⟨w.heap.size + 1, 0, none⟩)), isV (.int .i64 y.src), isV (.int .i64 (cmpI x.src y.src)), isV (.pointer (some ⟨w.heap.size, 1, none⟩)), isV (.int .i64 x.tgt), isV (.pointer (some ⟨w.heap.size + 1, 1, none⟩)), isV (.int .i64 y.tgt), isV (.int .i64 (cmpI x.tgt y.tgt)), isV (.pointer (some ⟨w.heap.size, 2, none⟩)), isV (.int .i64 x.cls), isV (.pointer (some ⟨w.heap.size + 1, 2, none⟩)), isV (.int .i64 y.cls), isV (.int .i64 (cmpI x.cls y.cls)), isV (.pointer (some ⟨w.heap.size, 3, none⟩)), isV (.int .i64 x.cond), isV (.pointer (some ⟨w.heap.size + 1, 3, none⟩)), isV (.int .i64 y.cond), isV (.int .i64 (cmpI x.cond y.cond)), fun u w' => ∃ g, u = .slice (some ⟨g, 0, none⟩) 4 4 ∧ Whole w' g 3 #[.int .i64 (cmpI x.src y.src), .int .i64 (cmpI x.tgt y.tgt), .int .i64 (cmpI x.cls y.cls), .int .i64 (cmpI x.cond y.cond)], isV (.int .i64 (orI [cmpI x.src y.src, cmpI x.tgt y.tgt, cmpI x.cls y.cls, cmpI x.cond y.cond]))] (fun _ w' => Grows wo w') 22 (by kernel_rfl) (by kernel_rfl) (by kernel_rfl) rfl (by decide) rfl rfl ((Grows.refl _).drew) ⟨lasts_is _, lasts_is _, lasts_is _, lasts_is _, lasts_is _, lasts_is _, lasts_is _, lasts_is _, lasts_is _, lasts_is _, lasts_is _, lasts_is _, lasts_is _, lasts_is _, lasts_is _, lasts_is _, lasts_is _, lasts_is _, lasts_is _, lasts_is _, (fun u wa wb ⟨g, h1, h2⟩ hb => ⟨g, h1, Whole.under hb h2 h2.lt⟩), lasts_is _, trivial⟩ ⟨(fun _ => lastsR_is _), (fun _ => lastsR_is _), (fun _ => lastsR_is _), (fun _ => lastsR_is _), (fun _ => lastsR_is _), (fun _ => lastsR_is _), (fun _ => lastsR_is _), (fun _ => lastsR_is _), (fun _ => lastsR_is _), (fun _ => lastsR_is _), (fun _ => lastsR_is _), (fun _ => lastsR_is _), (fun _ => lastsR_is _), (fun _ => lastsR_is _), (fun _ => lastsR_is _), (fun _ => lastsR_is _), (fun _ => lastsR_is _), (fun _ => lastsR_is _), (fun _ => lastsR_is _), (fun _ => lastsR_is _), (fun _ => (fun u wa wb ⟨g, h1, h2⟩ hb => ⟨g, h1, Whole.under hb h2 h2.lt⟩)), (fun _ => lastsR_is _), trivial⟩ ⟨?_, ?_, ?_, ?_, ?_, ?_, ?_, ?_, ?_, ?_, ?_, ?_, ?_, ?_, ?_, ?_, ?_, ?_, ?_, ?_, ?_, ?_, ?_⟩
  · intro L a wx Q' hL hi H F hK
    try dsimp only at hi
    have h2 : a.tmps[2]? = some (.pointer (some ⟨w.heap.size, 0, none⟩)) := F 2 rfl
    have HI := Lib.hid hi
    clear H F hi hL
    go_wp2_with fail
    exact hK _ _ (Below.refl _ _) HI.out rfl
  · intro L a wx Q' hL hi H F hK
    try dsimp only at hi
    obtain ⟨_, h5, rfl⟩ := H 0 ⟨.data, by simp, rfl⟩ _ rfl
    replace h5 := h5 _ rfl
    have HI := Lib.hid hi
    clear H F hi hL
    have kq0 : wx.cell? ⟨w.heap.size, 0, none⟩ = some (.int .i64 x.src) := (Whole.under HI.out.below HX.out HX.out.lt).cell 0
    go_wp2_with fail
    exact hK _ _ (Below.refl _ _) HI.out rfl
  · intro L a wx Q' hL hi H F hK
    try dsimp only at hi
    have h3 : a.tmps[3]? = some (.pointer (some ⟨w.heap.size + 1, 0, none⟩)) := F 3 rfl
    have HI := Lib.hid hi
    clear H F hi hL
    go_wp2_with fail
    exact hK _ _ (Below.refl _ _) HI.out rfl
  · intro L a wx Q' hL hi H F hK
    try dsimp only at hi
    obtain ⟨_, h7, rfl⟩ := H 2 ⟨.data, by simp, rfl⟩ _ rfl
    replace h7 := h7 _ rfl
    have HI := Lib.hid hi
    clear H F hi hL
    have kq0 : wx.cell? ⟨w.heap.size + 1, 0, none⟩ = some (.int .i64 y.src) := (Whole.under HI.out.below HY.out HY.out.lt).cell 0
    go_wp2_with fail
    exact hK _ _ (Below.refl _ _) HI.out rfl
  · intro L a wx Q' hL hi H F hK
    try dsimp only at hi
    obtain ⟨_, h6, rfl⟩ := H 1 ⟨.data, by simp, rfl⟩ _ rfl
    replace h6 := h6 _ rfl
    obtain ⟨_, h8, rfl⟩ := H 3 ⟨.data, by simp, rfl⟩ _ rfl
    replace h8 := h8 _ rfl
    have HI := Lib.hid hi
    clear H F hi hL
    go_wp2_with (go_at_call 56; go_must (refine (compare_any _ _ _).mono ?_; rintro e w1 ⟨rfl, rfl⟩))
    exact hK _ _ (Below.refl _ _) HI.out rfl
  · intro L a wx Q' hL hi H F hK
    try dsimp only at hi
    have h2 : a.tmps[2]? = some (.pointer (some ⟨w.heap.size, 0, none⟩)) := F 2 rfl
    have HI := Lib.hid hi
    clear H F hi hL
    go_wp2_with fail
    exact hK _ _ (Below.refl _ _) HI.out rfl
  · intro L a wx Q' hL hi H F hK
    try dsimp only at hi
    obtain ⟨_, h10, rfl⟩ := H 5 ⟨.data, by simp, rfl⟩ _ rfl
    replace h10 := h10 _ rfl
    have HI := Lib.hid hi
    clear H F hi hL
    have kq0 : wx.cell? ⟨w.heap.size, 1, none⟩ = some (.int .i64 x.tgt) := (Whole.under HI.out.below HX.out HX.out.lt).cell 1
    go_wp2_with fail
    exact hK _ _ (Below.refl _ _) HI.out rfl
  · intro L a wx Q' hL hi H F hK
    try dsimp only at hi
    have h3 : a.tmps[3]? = some (.pointer (some ⟨w.heap.size + 1, 0, none⟩)) := F 3 rfl
    have HI := Lib.hid hi
    clear H F hi hL
    go_wp2_with fail
    exact hK _ _ (Below.refl _ _) HI.out rfl
  · intro L a wx Q' hL hi H F hK
    try dsimp only at hi
    obtain ⟨_, h12, rfl⟩ := H 7 ⟨.data, by simp, rfl⟩ _ rfl
    replace h12 := h12 _ rfl
    have HI := Lib.hid hi
    clear H F hi hL
    have kq0 : wx.cell? ⟨w.heap.size + 1, 1, none⟩ = some (.int .i64 y.tgt) := (Whole.under HI.out.below HY.out HY.out.lt).cell 1
    go_wp2_with fail
    exact hK _ _ (Below.refl _ _) HI.out rfl
  · intro L a wx Q' hL hi H F hK
    try dsimp only at hi
    obtain ⟨_, h11, rfl⟩ := H 6 ⟨.data, by simp, rfl⟩ _ rfl
    replace h11 := h11 _ rfl
    obtain ⟨_, h13, rfl⟩ := H 8 ⟨.data, by simp, rfl⟩ _ rfl
    replace h13 := h13 _ rfl
    have HI := Lib.hid hi
    clear H F hi hL
    go_wp2_with (go_at_call 56; go_must (refine (compare_any _ _ _).mono ?_; rintro e w1 ⟨rfl, rfl⟩))
    exact hK _ _ (Below.refl _ _) HI.out rfl
  · intro L a wx Q' hL hi H F hK
    try dsimp only at hi
    have h2 : a.tmps[2]? = some (.pointer (some ⟨w.heap.size, 0, none⟩)) := F 2 rfl
    have HI := Lib.hid hi
    clear H F hi hL
    go_wp2_with fail
    exact hK _ _ (Below.refl _ _) HI.out rfl
  · intro L a wx Q' hL hi H F hK
    try dsimp only at hi
    obtain ⟨_, h15, rfl⟩ := H 10 ⟨.data, by simp, rfl⟩ _ rfl
    replace h15 := h15 _ rfl
    have HI := Lib.hid hi
    clear H F hi hL
    have kq0 : wx.cell? ⟨w.heap.size, 2, none⟩ = some (.int .i64 x.cls) := (Whole.under HI.out.below HX.out HX.out.lt).cell 2
    go_wp2_with fail
    exact hK _ _ (Below.refl _ _) HI.out rfl
  · intro L a wx Q' hL hi H F hK
    try dsimp only at hi
    have h3 : a.tmps[3]? = some (.pointer (some ⟨w.heap.size + 1, 0, none⟩)) := F 3 rfl
    have HI := Lib.hid hi
    clear H F hi hL
    go_wp2_with fail
    exact hK _ _ (Below.refl _ _) HI.out rfl
  · intro L a wx Q' hL hi H F hK
    try dsimp only at hi
    obtain ⟨_, h17, rfl⟩ := H 12 ⟨.data, by simp, rfl⟩ _ rfl
    replace h17 := h17 _ rfl
    have HI := Lib.hid hi
    clear H F hi hL
    have kq0 : wx.cell? ⟨w.heap.size + 1, 2, none⟩ = some (.int .i64 y.cls) := (Whole.under HI.out.below HY.out HY.out.lt).cell 2
    go_wp2_with fail
    exact hK _ _ (Below.refl _ _) HI.out rfl
  · intro L a wx Q' hL hi H F hK
    try dsimp only at hi
    obtain ⟨_, h16, rfl⟩ := H 11 ⟨.data, by simp, rfl⟩ _ rfl
    replace h16 := h16 _ rfl
    obtain ⟨_, h18, rfl⟩ := H 13 ⟨.data, by simp, rfl⟩ _ rfl
    replace h18 := h18 _ rfl
    have HI := Lib.hid hi
    clear H F hi hL
    go_wp2_with (go_at_call 56; go_must (refine (compare_any _ _ _).mono ?_; rintro e w1 ⟨rfl, rfl⟩))
    exact hK _ _ (Below.refl _ _) HI.out rfl
  · intro L a wx Q' hL hi H F hK
    try dsimp only at hi
    have h2 : a.tmps[2]? = some (.pointer (some ⟨w.heap.size, 0, none⟩)) := F 2 rfl
    have HI := Lib.hid hi
    clear H F hi hL
    go_wp2_with fail
    exact hK _ _ (Below.refl _ _) HI.out rfl
  · intro L a wx Q' hL hi H F hK
    try dsimp only at hi
    obtain ⟨_, h20, rfl⟩ := H 15 ⟨.data, by simp, rfl⟩ _ rfl
    replace h20 := h20 _ rfl
    have HI := Lib.hid hi
    clear H F hi hL
    have kq0 : wx.cell? ⟨w.heap.size, 3, none⟩ = some (.int .i64 x.cond) := (Whole.under HI.out.below HX.out HX.out.lt).cell 3
    go_wp2_with fail
    exact hK _ _ (Below.refl _ _) HI.out rfl
  · intro L a wx Q' hL hi H F hK
    try dsimp only at hi
    have h3 : a.tmps[3]? = some (.pointer (some ⟨w.heap.size + 1, 0, none⟩)) := F 3 rfl
    have HI := Lib.hid hi
    clear H F hi hL
    go_wp2_with fail
    exact hK _ _ (Below.refl _ _) HI.out rfl
  · intro L a wx Q' hL hi H F hK
    try dsimp only at hi
    obtain ⟨_, h22, rfl⟩ := H 17 ⟨.data, by simp, rfl⟩ _ rfl
    replace h22 := h22 _ rfl
    have HI := Lib.hid hi
    clear H F hi hL
    have kq0 : wx.cell? ⟨w.heap.size + 1, 3, none⟩ = some (.int .i64 y.cond) := (Whole.under HI.out.below HY.out HY.out.lt).cell 3
    go_wp2_with fail
    exact hK _ _ (Below.refl _ _) HI.out rfl
  · intro L a wx Q' hL hi H F hK
    try dsimp only at hi
    obtain ⟨_, h21, rfl⟩ := H 16 ⟨.data, by simp, rfl⟩ _ rfl
    replace h21 := h21 _ rfl
    obtain ⟨_, h23, rfl⟩ := H 18 ⟨.data, by simp, rfl⟩ _ rfl
    replace h23 := h23 _ rfl
    have HI := Lib.hid hi
    clear H F hi hL
    go_wp2_with (go_at_call 56; go_must (refine (compare_any _ _ _).mono ?_; rintro e w1 ⟨rfl, rfl⟩))
    exact hK _ _ (Below.refl _ _) HI.out rfl
  · intro L a wx Q' hL hi H F hK
    try dsimp only at hi
    obtain ⟨_, h9, rfl⟩ := H 4 ⟨.data, by simp, rfl⟩ _ rfl
    replace h9 := h9 _ rfl
    obtain ⟨_, h14, rfl⟩ := H 9 ⟨.data, by simp, rfl⟩ _ rfl
    replace h14 := h14 _ rfl
    obtain ⟨_, h19, rfl⟩ := H 14 ⟨.data, by simp, rfl⟩ _ rfl
    replace h19 := h19 _ rfl
    obtain ⟨_, h24, rfl⟩ := H 19 ⟨.data, by simp, rfl⟩ _ rfl
    replace h24 := h24 _ rfl
    have HI := Lib.hid hi
    clear H F hi hL
    go_wp2_with fail
    have hb := (Below.refl wx.heap.size wx).alloc (Nat.le_refl _) (.cells #[.int .i64 (cmpI x.src y.src), .int .i64 (cmpI x.tgt y.tgt), .int .i64 (cmpI x.cls y.cls), .int .i64 (cmpI x.cond y.cond)] 3)
    exact hK _ _ hb (HI.out.alloc _) ⟨wx.heap.size, rfl, Whole.new wx 3 _⟩
  · intro L a wx Q' hL hi H F hK
    try dsimp only at hi
    obtain ⟨v25, h25, hv25⟩ := H 20 ⟨.data, by simp, rfl⟩ _ rfl
    replace h25 := h25 _ rfl
    have HV25 := Lib.hid hv25
    clear hv25
    have HI := Lib.hid hi
    clear H F hi hL
    obtain ⟨g, rfl, hw⟩ := HV25.out
    have HS := Lib.hid (row_ints (l := [cmpI x.src y.src, cmpI x.tgt y.tgt, cmpI x.cls y.cls, cmpI x.cond y.cond]) (by simp) hw)
    clear HV25 hw
    go_wp2_with (go_at_call 55; go_must (refine (or_any _ _ [cmpI x.src y.src, cmpI x.tgt y.tgt, cmpI x.cls y.cls, cmpI x.cond y.cond] HS.out).mono ?_; rintro e w1 ⟨rfl, rfl⟩))
    exact hK _ _ (Below.refl _ _) HI.out rfl
  · intro a wx hl L hi hL Q' hK
    try dsimp only at hi
    have HB := Lib.hid hi
    clear hi hL
    obtain ⟨_, rfl, _, rfl, _, rfl, _, rfl, _, rfl, _, rfl, _, rfl, _, rfl, _, rfl, _, rfl, _, rfl, _, rfl, _, rfl, _, rfl, _, rfl, _, rfl, _, rfl, _, rfl, _, rfl, _, rfl, u25, hu25, _, rfl, rfl⟩ := hl
    have HU25 := Lib.hid hu25
    clear hu25
    simp only [List.setIfInBounds_toArray, List.set_cons_zero, List.set_cons_succ]
    go_wp2_with fail
    go_ret
    exact ⟨rfl, HG.out.trans HB.out⟩

end Go.Proofs.YtmkfabdkadocdaaDoor
