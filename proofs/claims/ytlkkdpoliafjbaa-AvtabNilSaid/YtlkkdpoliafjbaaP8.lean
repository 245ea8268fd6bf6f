import Derived.Test.YtlkkdpoliafjbaaP7
/-
  The reference: Before, visible, Same; Ints.
-/
namespace Go.Proofs.Ytlkkdpoliafjbaa
open Go Go.WideMaps Go.RowKit

theorem before_0 (w : World) (x y : AEntry) (HQ : Hid (¬ x.src = y.src)) :
    Calls Try.prog 18 #[.agg #[.int .i64 x.src, .int .i64 x.tgt, .int .i64 x.cls, .int .i64 x.cond, .int .u32 x.allow, .int .u32 x.audit, .int .u32 x.dont], .agg #[.int .i64 y.src, .int .i64 y.tgt, .int .i64 y.cls, .int .i64 y.cond, .int .u32 y.allow, .int .u32 y.audit, .int .u32 y.dont]] w fun e w' => e = .returned (.bool (decide (x.src < y.src))) ∧ RowKit.Below w.heap.size w w' := by
  obtain ⟨wo, hwo⟩ : ∃ wo, wo = ((w.alloc (.cells #[.int .i64 x.src, .int .i64 x.tgt, .int .i64 x.cls, .int .i64 x.cond, .int .u32 x.allow, .int .u32 x.audit, .int .u32 x.dont] 37)).alloc (.cells #[.int .i64 y.src, .int .i64 y.tgt, .int .i64 y.cls, .int .i64 y.cond, .int .u32 y.allow, .int .u32 y.audit, .int .u32 y.dont] 37)) := ⟨_, rfl⟩
  have HBO := Lib.hid (show RowKit.Below w.heap.size w wo by rw [hwo]; exact ((Below.refl _ w).alloc (Nat.le_refl _) _).alloc (by simp) _)
  have HX0 := Lib.hid (show Whole wo w.heap.size 37 #[.int .i64 x.src, .int .i64 x.tgt, .int .i64 x.cls, .int .i64 x.cond, .int .u32 x.allow, .int .u32 x.audit, .int .u32 x.dont] by rw [hwo]; exact (Whole.new w 37 _).alloc _)
  have HY0 := Lib.hid (show Whole wo (w.heap.size + 1) 37 #[.int .i64 y.src, .int .i64 y.tgt, .int .i64 y.cls, .int .i64 y.cond, .int .u32 y.allow, .int .u32 y.audit, .int .u32 y.dont] by rw [hwo]; exact whole_two w _ #[.int .i64 y.src, .int .i64 y.tgt, .int .i64 y.cls, .int .i64 y.cond, .int .u32 y.allow, .int .u32 y.audit, .int .u32 y.dont] _)
  go_enter Try.func18, Try.ntmps18
  go_upto_region 1 with fail
  rw [← hwo]
  clear hwo
  have kx0 : wo.cell? ⟨w.heap.size, 0, none⟩ = some (.int .i64 x.src) := HX0.out.cell 0
  have ky0 : wo.cell? ⟨w.heap.size + 1, 0, none⟩ = some (.int .i64 y.src) := HY0.out.cell 0
  have kx1 : wo.cell? ⟨w.heap.size, 1, none⟩ = some (.int .i64 x.tgt) := HX0.out.cell 1
  have ky1 : wo.cell? ⟨w.heap.size + 1, 1, none⟩ = some (.int .i64 y.tgt) := HY0.out.cell 1
  have kx2 : wo.cell? ⟨w.heap.size, 2, none⟩ = some (.int .i64 x.cls) := HX0.out.cell 2
  have ky2 : wo.cell? ⟨w.heap.size + 1, 2, none⟩ = some (.int .i64 y.cls) := HY0.out.cell 2
  have kx3 : wo.cell? ⟨w.heap.size, 3, none⟩ = some (.int .i64 x.cond) := HX0.out.cell 3
  have ky3 : wo.cell? ⟨w.heap.size + 1, 3, none⟩ = some (.int .i64 y.cond) := HY0.out.cell 3
  have h0 : (x.src != y.src) = true := by simp [HQ.out]
  go_wp2
  go_ret
  exact ⟨ret_val rfl, HBO.out⟩
theorem before_1 (w : World) (x y : AEntry) (HQ : Hid (x.src = y.src ∧ ¬ x.tgt = y.tgt)) :
    Calls Try.prog 18 #[.agg #[.int .i64 x.src, .int .i64 x.tgt, .int .i64 x.cls, .int .i64 x.cond, .int .u32 x.allow, .int .u32 x.audit, .int .u32 x.dont], .agg #[.int .i64 y.src, .int .i64 y.tgt, .int .i64 y.cls, .int .i64 y.cond, .int .u32 y.allow, .int .u32 y.audit, .int .u32 y.dont]] w fun e w' => e = .returned (.bool (decide (x.tgt < y.tgt))) ∧ RowKit.Below w.heap.size w w' := by
  obtain ⟨wo, hwo⟩ : ∃ wo, wo = ((w.alloc (.cells #[.int .i64 x.src, .int .i64 x.tgt, .int .i64 x.cls, .int .i64 x.cond, .int .u32 x.allow, .int .u32 x.audit, .int .u32 x.dont] 37)).alloc (.cells #[.int .i64 y.src, .int .i64 y.tgt, .int .i64 y.cls, .int .i64 y.cond, .int .u32 y.allow, .int .u32 y.audit, .int .u32 y.dont] 37)) := ⟨_, rfl⟩
  have HBO := Lib.hid (show RowKit.Below w.heap.size w wo by rw [hwo]; exact ((Below.refl _ w).alloc (Nat.le_refl _) _).alloc (by simp) _)
  have HX0 := Lib.hid (show Whole wo w.heap.size 37 #[.int .i64 x.src, .int .i64 x.tgt, .int .i64 x.cls, .int .i64 x.cond, .int .u32 x.allow, .int .u32 x.audit, .int .u32 x.dont] by rw [hwo]; exact (Whole.new w 37 _).alloc _)
  have HY0 := Lib.hid (show Whole wo (w.heap.size + 1) 37 #[.int .i64 y.src, .int .i64 y.tgt, .int .i64 y.cls, .int .i64 y.cond, .int .u32 y.allow, .int .u32 y.audit, .int .u32 y.dont] by rw [hwo]; exact whole_two w _ #[.int .i64 y.src, .int .i64 y.tgt, .int .i64 y.cls, .int .i64 y.cond, .int .u32 y.allow, .int .u32 y.audit, .int .u32 y.dont] _)
  go_enter Try.func18, Try.ntmps18
  go_upto_region 1 with fail
  rw [← hwo]
  clear hwo
  have kx0 : wo.cell? ⟨w.heap.size, 0, none⟩ = some (.int .i64 x.src) := HX0.out.cell 0
  have ky0 : wo.cell? ⟨w.heap.size + 1, 0, none⟩ = some (.int .i64 y.src) := HY0.out.cell 0
  have kx1 : wo.cell? ⟨w.heap.size, 1, none⟩ = some (.int .i64 x.tgt) := HX0.out.cell 1
  have ky1 : wo.cell? ⟨w.heap.size + 1, 1, none⟩ = some (.int .i64 y.tgt) := HY0.out.cell 1
  have kx2 : wo.cell? ⟨w.heap.size, 2, none⟩ = some (.int .i64 x.cls) := HX0.out.cell 2
  have ky2 : wo.cell? ⟨w.heap.size + 1, 2, none⟩ = some (.int .i64 y.cls) := HY0.out.cell 2
  have kx3 : wo.cell? ⟨w.heap.size, 3, none⟩ = some (.int .i64 x.cond) := HX0.out.cell 3
  have ky3 : wo.cell? ⟨w.heap.size + 1, 3, none⟩ = some (.int .i64 y.cond) := HY0.out.cell 3
  have h0 : (x.src != y.src) = false := by simp [HQ.out.1]
  have h1 : (x.tgt != y.tgt) = true := by simp [HQ.out.2]
  go_wp2
  go_ret
  exact ⟨ret_val rfl, HBO.out⟩
theorem before_2 (w : World) (x y : AEntry) (HQ : Hid (x.src = y.src ∧ x.tgt = y.tgt ∧ ¬ x.cls = y.cls)) :
    Calls Try.prog 18 #[.agg #[.int .i64 x.src, .int .i64 x.tgt, .int .i64 x.cls, .int .i64 x.cond, .int .u32 x.allow, .int .u32 x.audit, .int .u32 x.dont], .agg #[.int .i64 y.src, .int .i64 y.tgt, .int .i64 y.cls, .int .i64 y.cond, .int .u32 y.allow, .int .u32 y.audit, .int .u32 y.dont]] w fun e w' => e = .returned (.bool (decide (x.cls < y.cls))) ∧ RowKit.Below w.heap.size w w' := by
  obtain ⟨wo, hwo⟩ : ∃ wo, wo = ((w.alloc (.cells #[.int .i64 x.src, .int .i64 x.tgt, .int .i64 x.cls, .int .i64 x.cond, .int .u32 x.allow, .int .u32 x.audit, .int .u32 x.dont] 37)).alloc (.cells #[.int .i64 y.src, .int .i64 y.tgt, .int .i64 y.cls, .int .i64 y.cond, .int .u32 y.allow, .int .u32 y.audit, .int .u32 y.dont] 37)) := ⟨_, rfl⟩
  have HBO := Lib.hid (show RowKit.Below w.heap.size w wo by rw [hwo]; exact ((Below.refl _ w).alloc (Nat.le_refl _) _).alloc (by simp) _)
  have HX0 := Lib.hid (show Whole wo w.heap.size 37 #[.int .i64 x.src, .int .i64 x.tgt, .int .i64 x.cls, .int .i64 x.cond, .int .u32 x.allow, .int .u32 x.audit, .int .u32 x.dont] by rw [hwo]; exact (Whole.new w 37 _).alloc _)
  have HY0 := Lib.hid (show Whole wo (w.heap.size + 1) 37 #[.int .i64 y.src, .int .i64 y.tgt, .int .i64 y.cls, .int .i64 y.cond, .int .u32 y.allow, .int .u32 y.audit, .int .u32 y.dont] by rw [hwo]; exact whole_two w _ #[.int .i64 y.src, .int .i64 y.tgt, .int .i64 y.cls, .int .i64 y.cond, .int .u32 y.allow, .int .u32 y.audit, .int .u32 y.dont] _)
  go_enter Try.func18, Try.ntmps18
  go_upto_region 1 with fail
  rw [← hwo]
  clear hwo
  have kx0 : wo.cell? ⟨w.heap.size, 0, none⟩ = some (.int .i64 x.src) := HX0.out.cell 0
  have ky0 : wo.cell? ⟨w.heap.size + 1, 0, none⟩ = some (.int .i64 y.src) := HY0.out.cell 0
  have kx1 : wo.cell? ⟨w.heap.size, 1, none⟩ = some (.int .i64 x.tgt) := HX0.out.cell 1
  have ky1 : wo.cell? ⟨w.heap.size + 1, 1, none⟩ = some (.int .i64 y.tgt) := HY0.out.cell 1
  have kx2 : wo.cell? ⟨w.heap.size, 2, none⟩ = some (.int .i64 x.cls) := HX0.out.cell 2
  have ky2 : wo.cell? ⟨w.heap.size + 1, 2, none⟩ = some (.int .i64 y.cls) := HY0.out.cell 2
  have kx3 : wo.cell? ⟨w.heap.size, 3, none⟩ = some (.int .i64 x.cond) := HX0.out.cell 3
  have ky3 : wo.cell? ⟨w.heap.size + 1, 3, none⟩ = some (.int .i64 y.cond) := HY0.out.cell 3
  have h0 : (x.src != y.src) = false := by simp [HQ.out.1]
  have h1 : (x.tgt != y.tgt) = false := by simp [HQ.out.2.1]
  have h2 : (x.cls != y.cls) = true := by simp [HQ.out.2.2]
  go_wp2
  go_ret
  exact ⟨ret_val rfl, HBO.out⟩
theorem before_3 (w : World) (x y : AEntry) (HQ : Hid (x.src = y.src ∧ x.tgt = y.tgt ∧ x.cls = y.cls)) :
    Calls Try.prog 18 #[.agg #[.int .i64 x.src, .int .i64 x.tgt, .int .i64 x.cls, .int .i64 x.cond, .int .u32 x.allow, .int .u32 x.audit, .int .u32 x.dont], .agg #[.int .i64 y.src, .int .i64 y.tgt, .int .i64 y.cls, .int .i64 y.cond, .int .u32 y.allow, .int .u32 y.audit, .int .u32 y.dont]] w fun e w' => e = .returned (.bool (decide (x.cond < y.cond))) ∧ RowKit.Below w.heap.size w w' := by
  obtain ⟨wo, hwo⟩ : ∃ wo, wo = ((w.alloc (.cells #[.int .i64 x.src, .int .i64 x.tgt, .int .i64 x.cls, .int .i64 x.cond, .int .u32 x.allow, .int .u32 x.audit, .int .u32 x.dont] 37)).alloc (.cells #[.int .i64 y.src, .int .i64 y.tgt, .int .i64 y.cls, .int .i64 y.cond, .int .u32 y.allow, .int .u32 y.audit, .int .u32 y.dont] 37)) := ⟨_, rfl⟩
  have HBO := Lib.hid (show RowKit.Below w.heap.size w wo by rw [hwo]; exact ((Below.refl _ w).alloc (Nat.le_refl _) _).alloc (by simp) _)
  have HX0 := Lib.hid (show Whole wo w.heap.size 37 #[.int .i64 x.src, .int .i64 x.tgt, .int .i64 x.cls, .int .i64 x.cond, .int .u32 x.allow, .int .u32 x.audit, .int .u32 x.dont] by rw [hwo]; exact (Whole.new w 37 _).alloc _)
  have HY0 := Lib.hid (show Whole wo (w.heap.size + 1) 37 #[.int .i64 y.src, .int .i64 y.tgt, .int .i64 y.cls, .int .i64 y.cond, .int .u32 y.allow, .int .u32 y.audit, .int .u32 y.dont] by rw [hwo]; exact whole_two w _ #[.int .i64 y.src, .int .i64 y.tgt, .int .i64 y.cls, .int .i64 y.cond, .int .u32 y.allow, .int .u32 y.audit, .int .u32 y.dont] _)
  go_enter Try.func18, Try.ntmps18
  go_upto_region 1 with fail
  rw [← hwo]
  clear hwo
  have kx0 : wo.cell? ⟨w.heap.size, 0, none⟩ = some (.int .i64 x.src) := HX0.out.cell 0
  have ky0 : wo.cell? ⟨w.heap.size + 1, 0, none⟩ = some (.int .i64 y.src) := HY0.out.cell 0
  have kx1 : wo.cell? ⟨w.heap.size, 1, none⟩ = some (.int .i64 x.tgt) := HX0.out.cell 1
  have ky1 : wo.cell? ⟨w.heap.size + 1, 1, none⟩ = some (.int .i64 y.tgt) := HY0.out.cell 1
  have kx2 : wo.cell? ⟨w.heap.size, 2, none⟩ = some (.int .i64 x.cls) := HX0.out.cell 2
  have ky2 : wo.cell? ⟨w.heap.size + 1, 2, none⟩ = some (.int .i64 y.cls) := HY0.out.cell 2
  have kx3 : wo.cell? ⟨w.heap.size, 3, none⟩ = some (.int .i64 x.cond) := HX0.out.cell 3
  have ky3 : wo.cell? ⟨w.heap.size + 1, 3, none⟩ = some (.int .i64 y.cond) := HY0.out.cell 3
  have h0 : (x.src != y.src) = false := by simp [HQ.out.1]
  have h1 : (x.tgt != y.tgt) = false := by simp [HQ.out.2.1]
  have h2 : (x.cls != y.cls) = false := by simp [HQ.out.2.2]
  go_wp2
  go_ret
  exact ⟨ret_val rfl, HBO.out⟩
theorem before_any (w : World) (x y : AEntry) : Calls Try.prog 18 #[.agg #[.int .i64 x.src, .int .i64 x.tgt, .int .i64 x.cls, .int .i64 x.cond, .int .u32 x.allow, .int .u32 x.audit, .int .u32 x.dont], .agg #[.int .i64 y.src, .int .i64 y.tgt, .int .i64 y.cls, .int .i64 y.cond, .int .u32 y.allow, .int .u32 y.audit, .int .u32 y.dont]] w fun e w' => e = .returned (.bool (befB x y)) ∧ RowKit.Below w.heap.size w w' := by
  by_cases h0 : x.src = y.src
  · by_cases h1 : x.tgt = y.tgt
    · by_cases h2 : x.cls = y.cls
      · refine (before_3 w x y (Lib.hid ⟨h0, h1, h2⟩)).mono ?_
        rintro e w' ⟨rfl, hb⟩
        exact ⟨ret_val (by unfold befB; simp [h0, h1, h2]), hb⟩
      · refine (before_2 w x y (Lib.hid ⟨h0, h1, h2⟩)).mono ?_
        rintro e w' ⟨rfl, hb⟩
        exact ⟨ret_val (by unfold befB; simp [h0, h1, h2]), hb⟩
    · refine (before_1 w x y (Lib.hid ⟨h0, h1⟩)).mono ?_
      rintro e w' ⟨rfl, hb⟩
      exact ⟨ret_val (by unfold befB; simp [h0, h1]), hb⟩
  · refine (before_0 w x y (Lib.hid h0)).mono ?_
    rintro e w' ⟨rfl, hb⟩
    exact ⟨ret_val (by unfold befB; simp [h0]), hb⟩
def oneInt (x : Int) : List Value := [.int .i64 x]
theorem oneInt_len (x : Int) : (oneInt x).length = 1 := rfl
theorem ints_flat (l : List Int) : l.map anInt = l.flatMap oneInt := by
  induction l with
  | nil => rfl
  | cons x l ih => simp [oneInt, anInt, ih]
set_option maxRecDepth 100000 in
set_option maxHeartbeats 4000000 in
theorem same6_15_t (w : World) (b1 of1 b2 of2 m n c1 c2 : Nat) (y z : AEntry) (x2 x3 x4 x6 x7 x8 x9 x10 x11 x12 x13 x14 x15 x16 x17 x18 x19 x20 x21 x22 x23 x24 x25 : Value) (hm : m < n) (HE1 : Hid (∀ j u, (y.cells)[j]? = some u → w.cell? ⟨b1, of1 + m * 7 + j, none⟩ = some u)) (HE2 : Hid (∀ j u, (z.cells)[j]? = some u → w.cell? ⟨b2, of2 + m * 7 + j, none⟩ = some u)) (HQ : Hid (∀ W, (Op.equalIn 10000 37 (.agg #[.int .i64 y.src, .int .i64 y.tgt, .int .i64 y.cls, .int .i64 y.cond, .int .u32 y.allow, .int .u32 y.audit, .int .u32 y.dont]) (.agg #[.int .i64 z.src, .int .i64 z.tgt, .int .i64 z.cls, .int .i64 z.cond, .int .u32 z.allow, .int .u32 z.audit, .int .u32 z.dont])).run Try.prog W = .ok true W))
    {Q' : Exit → Act → World → Prop} (hend : ∀ (v17 v18 v19 v20 v21 v22 v23 v24 : Value) (w' : World), RowKit.Below w.heap.size w w' → Q' .normal ⟨#[.slice (some ⟨b1, of1, none⟩) n c1, .slice (some ⟨b2, of2, none⟩) n c2, x2, x3, x4, .int .i64 (m : Nat), x6, x7, x8, x9, x10, x11, x12, x13, x14, x15, x16, v17, v18, v19, v20, v21, v22, v23, v24, .bool false], []⟩ w') :
    Code.wp Try.prog (findRegion7 6 ((Try.f15.body).getD .skip)) Q' ⟨#[.slice (some ⟨b1, of1, none⟩) n c1, .slice (some ⟨b2, of2, none⟩) n c2, x2, x3, x4, .int .i64 (m : Nat), x6, x7, x8, x9, x10, x11, x12, x13, x14, x15, x16, x17, x18, x19, x20, x21, x22, x23, x24, x25], []⟩ w := by
  have HEND := Lib.hid hend
  clear hend
  conv => arg 2; whnf
  conv => arg 4; dsimp only
  refine wp_region_goods [some 17, some 18, some 19, some 20, some 21, some 22, some 23, some 24] [isW (.slice (some ⟨b1, of1, none⟩) n c1), isW (.int .i64 (m : Nat)), isW (.pointer (some ⟨b1, of1 + m * 7, none⟩)), isW (.agg #[.int .i64 y.src, .int .i64 y.tgt, .int .i64 y.cls, .int .i64 y.cond, .int .u32 y.allow, .int .u32 y.audit, .int .u32 y.dont]), isW (.slice (some ⟨b2, of2, none⟩) n c2), isW (.int .i64 (m : Nat)), isW (.pointer (some ⟨b2, of2 + m * 7, none⟩)), isW (.agg #[.int .i64 z.src, .int .i64 z.tgt, .int .i64 z.cls, .int .i64 z.cond, .int .u32 z.allow, .int .u32 z.audit, .int .u32 z.dont])] (fun _ w' => RowKit.Below w.heap.size w w') [] (by kernel_rfl) (by kernel_rfl) (by kernel_rfl) rfl (by decide) rfl rfl ((Below.refl _ _).drew) ⟨lastsW_is _, lastsW_is _, lastsW_is _, lastsW_is _, lastsW_is _, lastsW_is _, lastsW_is _, lastsW_is _, trivial⟩ ⟨?_, ?_, ?_, ?_, ?_, ?_, ?_, ?_, ?_⟩
  · intro L a wy Q' hL hi H F hK
    try dsimp only at hi
    have h0 : a.tmps[0]? = some (.slice (some ⟨b1, of1, none⟩) n c1) := F 0 rfl
    have HI := Lib.hid hi
    clear H F hi hL
    go_wp2_with fail
    exact hK _ _ (Below.refl _ _) HI.out rfl
  · intro L a wy Q' hL hi H F hK
    try dsimp only at hi
    have h5 : a.tmps[5]? = some (.int .i64 (m : Nat)) := F 5 rfl
    have HI := Lib.hid hi
    clear H F hi hL
    go_wp2_with fail
    exact hK _ _ (Below.refl _ _) HI.out rfl
  · intro L a wy Q' hL hi H F hK
    try dsimp only at hi
    obtain ⟨_, h17, rfl⟩ := H 0 ⟨.data, by simp, rfl⟩ _ rfl
    replace h17 := h17 _ rfl
    obtain ⟨_, h18, rfl⟩ := H 1 ⟨.data, by simp, rfl⟩ _ rfl
    replace h18 := h18 _ rfl
    have HI := Lib.hid hi
    clear H F hi hL
    go_wp2_with fail
    exact hK _ _ (Below.refl _ _) HI.out rfl
  · intro L a wy Q' hL hi H F hK
    try dsimp only at hi
    obtain ⟨_, h19, rfl⟩ := H 2 ⟨.data, by simp, rfl⟩ _ rfl
    replace h19 := h19 _ rfl
    have HI := Lib.hid hi
    clear H F hi hL
    have e0 : wy.cell? ⟨b1, of1 + m * 7, none⟩ = some (.int .i64 y.src) := cell_later HI.out (HE1.out 0 _ rfl)
    have e1 : wy.cell? ⟨b1, of1 + m * 7 + 1, none⟩ = some (.int .i64 y.tgt) := cell_later HI.out (HE1.out 1 _ rfl)
    have e2 : wy.cell? ⟨b1, of1 + m * 7 + 2, none⟩ = some (.int .i64 y.cls) := cell_later HI.out (HE1.out 2 _ rfl)
    have e3 : wy.cell? ⟨b1, of1 + m * 7 + 3, none⟩ = some (.int .i64 y.cond) := cell_later HI.out (HE1.out 3 _ rfl)
    have e4 : wy.cell? ⟨b1, of1 + m * 7 + 4, none⟩ = some (.int .u32 y.allow) := cell_later HI.out (HE1.out 4 _ rfl)
    have e5 : wy.cell? ⟨b1, of1 + m * 7 + 5, none⟩ = some (.int .u32 y.audit) := cell_later HI.out (HE1.out 5 _ rfl)
    have e6 : wy.cell? ⟨b1, of1 + m * 7 + 6, none⟩ = some (.int .u32 y.dont) := cell_later HI.out (HE1.out 6 _ rfl)
    go_wp2_with fail
    exact hK _ _ (Below.refl _ _) HI.out rfl
  · intro L a wy Q' hL hi H F hK
    try dsimp only at hi
    have h1 : a.tmps[1]? = some (.slice (some ⟨b2, of2, none⟩) n c2) := F 1 rfl
    have HI := Lib.hid hi
    clear H F hi hL
    go_wp2_with fail
    exact hK _ _ (Below.refl _ _) HI.out rfl
  · intro L a wy Q' hL hi H F hK
    try dsimp only at hi
    have h5 : a.tmps[5]? = some (.int .i64 (m : Nat)) := F 5 rfl
    have HI := Lib.hid hi
    clear H F hi hL
    go_wp2_with fail
    exact hK _ _ (Below.refl _ _) HI.out rfl
  · intro L a wy Q' hL hi H F hK
    try dsimp only at hi
    obtain ⟨_, h21, rfl⟩ := H 4 ⟨.data, by simp, rfl⟩ _ rfl
    replace h21 := h21 _ rfl
    obtain ⟨_, h22, rfl⟩ := H 5 ⟨.data, by simp, rfl⟩ _ rfl
    replace h22 := h22 _ rfl
    have HI := Lib.hid hi
    clear H F hi hL
    go_wp2_with fail
    exact hK _ _ (Below.refl _ _) HI.out rfl
  · intro L a wy Q' hL hi H F hK
    try dsimp only at hi
    obtain ⟨_, h23, rfl⟩ := H 6 ⟨.data, by simp, rfl⟩ _ rfl
    replace h23 := h23 _ rfl
    have HI := Lib.hid hi
    clear H F hi hL
    have g0 : wy.cell? ⟨b2, of2 + m * 7, none⟩ = some (.int .i64 z.src) := cell_later HI.out (HE2.out 0 _ rfl)
    have g1 : wy.cell? ⟨b2, of2 + m * 7 + 1, none⟩ = some (.int .i64 z.tgt) := cell_later HI.out (HE2.out 1 _ rfl)
    have g2 : wy.cell? ⟨b2, of2 + m * 7 + 2, none⟩ = some (.int .i64 z.cls) := cell_later HI.out (HE2.out 2 _ rfl)
    have g3 : wy.cell? ⟨b2, of2 + m * 7 + 3, none⟩ = some (.int .i64 z.cond) := cell_later HI.out (HE2.out 3 _ rfl)
    have g4 : wy.cell? ⟨b2, of2 + m * 7 + 4, none⟩ = some (.int .u32 z.allow) := cell_later HI.out (HE2.out 4 _ rfl)
    have g5 : wy.cell? ⟨b2, of2 + m * 7 + 5, none⟩ = some (.int .u32 z.audit) := cell_later HI.out (HE2.out 5 _ rfl)
    have g6 : wy.cell? ⟨b2, of2 + m * 7 + 6, none⟩ = some (.int .u32 z.dont) := cell_later HI.out (HE2.out 6 _ rfl)
    go_wp2_with fail
    exact hK _ _ (Below.refl _ _) HI.out rfl
  · intro a wy L hl hi hL Q' hK
    try dsimp only at hi
    have HB := Lib.hid hi
    clear hi hL
    obtain ⟨_, rfl, _, rfl, _, rfl, _, rfl, _, rfl, _, rfl, _, rfl, _, rfl, rfl⟩ := hl
    simp only [List.setIfInBounds_toArray, List.set_cons_zero, List.set_cons_succ]
    have q := HQ.out
    go_wp2_with fail
    exact HEND.out _ _ _ _ _ _ _ _ _ HB.out
set_option maxRecDepth 100000 in
set_option maxHeartbeats 4000000 in
theorem same6_15_f (w : World) (b1 of1 b2 of2 m n c1 c2 : Nat) (y z : AEntry) (x2 x3 x4 x6 x7 x8 x9 x10 x11 x12 x13 x14 x15 x16 x17 x18 x19 x20 x21 x22 x23 x24 x25 : Value) (hm : m < n) (HE1 : Hid (∀ j u, (y.cells)[j]? = some u → w.cell? ⟨b1, of1 + m * 7 + j, none⟩ = some u)) (HE2 : Hid (∀ j u, (z.cells)[j]? = some u → w.cell? ⟨b2, of2 + m * 7 + j, none⟩ = some u)) (HQ : Hid (∀ W, (Op.equalIn 10000 37 (.agg #[.int .i64 y.src, .int .i64 y.tgt, .int .i64 y.cls, .int .i64 y.cond, .int .u32 y.allow, .int .u32 y.audit, .int .u32 y.dont]) (.agg #[.int .i64 z.src, .int .i64 z.tgt, .int .i64 z.cls, .int .i64 z.cond, .int .u32 z.allow, .int .u32 z.audit, .int .u32 z.dont])).run Try.prog W = .ok false W))
    {Q' : Exit → Act → World → Prop} (hend : ∀ (v17 v18 v19 v20 v21 v22 v23 v24 : Value) (w' : World), RowKit.Below w.heap.size w w' → Q' .normal ⟨#[.slice (some ⟨b1, of1, none⟩) n c1, .slice (some ⟨b2, of2, none⟩) n c2, x2, x3, x4, .int .i64 (m : Nat), x6, x7, x8, x9, x10, x11, x12, x13, x14, x15, x16, v17, v18, v19, v20, v21, v22, v23, v24, .bool true], []⟩ w') :
    Code.wp Try.prog (findRegion7 6 ((Try.f15.body).getD .skip)) Q' ⟨#[.slice (some ⟨b1, of1, none⟩) n c1, .slice (some ⟨b2, of2, none⟩) n c2, x2, x3, x4, .int .i64 (m : Nat), x6, x7, x8, x9, x10, x11, x12, x13, x14, x15, x16, x17, x18, x19, x20, x21, x22, x23, x24, x25], []⟩ w := by
  have HEND := Lib.hid hend
  clear hend
  conv => arg 2; whnf
  conv => arg 4; dsimp only
  refine wp_region_goods [some 17, some 18, some 19, some 20, some 21, some 22, some 23, some 24] [isW (.slice (some ⟨b1, of1, none⟩) n c1), isW (.int .i64 (m : Nat)), isW (.pointer (some ⟨b1, of1 + m * 7, none⟩)), isW (.agg #[.int .i64 y.src, .int .i64 y.tgt, .int .i64 y.cls, .int .i64 y.cond, .int .u32 y.allow, .int .u32 y.audit, .int .u32 y.dont]), isW (.slice (some ⟨b2, of2, none⟩) n c2), isW (.int .i64 (m : Nat)), isW (.pointer (some ⟨b2, of2 + m * 7, none⟩)), isW (.agg #[.int .i64 z.src, .int .i64 z.tgt, .int .i64 z.cls, .int .i64 z.cond, .int .u32 z.allow, .int .u32 z.audit, .int .u32 z.dont])] (fun _ w' => RowKit.Below w.heap.size w w') [] (by kernel_rfl) (by kernel_rfl) (by kernel_rfl) rfl (by decide) rfl rfl ((Below.refl _ _).drew) ⟨lastsW_is _, lastsW_is _, lastsW_is _, lastsW_is _, lastsW_is _, lastsW_is _, lastsW_is _, lastsW_is _, trivial⟩ ⟨?_, ?_, ?_, ?_, ?_, ?_, ?_, ?_, ?_⟩
  · intro L a wy Q' hL hi H F hK
    try dsimp only at hi
    have h0 : a.tmps[0]? = some (.slice (some ⟨b1, of1, none⟩) n c1) := F 0 rfl
    have HI := Lib.hid hi
    clear H F hi hL
    go_wp2_with fail
    exact hK _ _ (Below.refl _ _) HI.out rfl
  · intro L a wy Q' hL hi H F hK
    try dsimp only at hi
    have h5 : a.tmps[5]? = some (.int .i64 (m : Nat)) := F 5 rfl
    have HI := Lib.hid hi
    clear H F hi hL
    go_wp2_with fail
    exact hK _ _ (Below.refl _ _) HI.out rfl
  · intro L a wy Q' hL hi H F hK
    try dsimp only at hi
    obtain ⟨_, h17, rfl⟩ := H 0 ⟨.data, by simp, rfl⟩ _ rfl
    replace h17 := h17 _ rfl
    obtain ⟨_, h18, rfl⟩ := H 1 ⟨.data, by simp, rfl⟩ _ rfl
    replace h18 := h18 _ rfl
    have HI := Lib.hid hi
    clear H F hi hL
    go_wp2_with fail
    exact hK _ _ (Below.refl _ _) HI.out rfl
  · intro L a wy Q' hL hi H F hK
    try dsimp only at hi
    obtain ⟨_, h19, rfl⟩ := H 2 ⟨.data, by simp, rfl⟩ _ rfl
    replace h19 := h19 _ rfl
    have HI := Lib.hid hi
    clear H F hi hL
    have e0 : wy.cell? ⟨b1, of1 + m * 7, none⟩ = some (.int .i64 y.src) := cell_later HI.out (HE1.out 0 _ rfl)
    have e1 : wy.cell? ⟨b1, of1 + m * 7 + 1, none⟩ = some (.int .i64 y.tgt) := cell_later HI.out (HE1.out 1 _ rfl)
    have e2 : wy.cell? ⟨b1, of1 + m * 7 + 2, none⟩ = some (.int .i64 y.cls) := cell_later HI.out (HE1.out 2 _ rfl)
    have e3 : wy.cell? ⟨b1, of1 + m * 7 + 3, none⟩ = some (.int .i64 y.cond) := cell_later HI.out (HE1.out 3 _ rfl)
    have e4 : wy.cell? ⟨b1, of1 + m * 7 + 4, none⟩ = some (.int .u32 y.allow) := cell_later HI.out (HE1.out 4 _ rfl)
    have e5 : wy.cell? ⟨b1, of1 + m * 7 + 5, none⟩ = some (.int .u32 y.audit) := cell_later HI.out (HE1.out 5 _ rfl)
    have e6 : wy.cell? ⟨b1, of1 + m * 7 + 6, none⟩ = some (.int .u32 y.dont) := cell_later HI.out (HE1.out 6 _ rfl)
    go_wp2_with fail
    exact hK _ _ (Below.refl _ _) HI.out rfl
  · intro L a wy Q' hL hi H F hK
    try dsimp only at hi
    have h1 : a.tmps[1]? = some (.slice (some ⟨b2, of2, none⟩) n c2) := F 1 rfl
    have HI := Lib.hid hi
    clear H F hi hL
    go_wp2_with fail
    exact hK _ _ (Below.refl _ _) HI.out rfl
  · intro L a wy Q' hL hi H F hK
    try dsimp only at hi
    have h5 : a.tmps[5]? = some (.int .i64 (m : Nat)) := F 5 rfl
    have HI := Lib.hid hi
    clear H F hi hL
    go_wp2_with fail
    exact hK _ _ (Below.refl _ _) HI.out rfl
  · intro L a wy Q' hL hi H F hK
    try dsimp only at hi
    obtain ⟨_, h21, rfl⟩ := H 4 ⟨.data, by simp, rfl⟩ _ rfl
    replace h21 := h21 _ rfl
    obtain ⟨_, h22, rfl⟩ := H 5 ⟨.data, by simp, rfl⟩ _ rfl
    replace h22 := h22 _ rfl
    have HI := Lib.hid hi
    clear H F hi hL
    go_wp2_with fail
    exact hK _ _ (Below.refl _ _) HI.out rfl
  · intro L a wy Q' hL hi H F hK
    try dsimp only at hi
    obtain ⟨_, h23, rfl⟩ := H 6 ⟨.data, by simp, rfl⟩ _ rfl
    replace h23 := h23 _ rfl
    have HI := Lib.hid hi
    clear H F hi hL
    have g0 : wy.cell? ⟨b2, of2 + m * 7, none⟩ = some (.int .i64 z.src) := cell_later HI.out (HE2.out 0 _ rfl)
    have g1 : wy.cell? ⟨b2, of2 + m * 7 + 1, none⟩ = some (.int .i64 z.tgt) := cell_later HI.out (HE2.out 1 _ rfl)
    have g2 : wy.cell? ⟨b2, of2 + m * 7 + 2, none⟩ = some (.int .i64 z.cls) := cell_later HI.out (HE2.out 2 _ rfl)
    have g3 : wy.cell? ⟨b2, of2 + m * 7 + 3, none⟩ = some (.int .i64 z.cond) := cell_later HI.out (HE2.out 3 _ rfl)
    have g4 : wy.cell? ⟨b2, of2 + m * 7 + 4, none⟩ = some (.int .u32 z.allow) := cell_later HI.out (HE2.out 4 _ rfl)
    have g5 : wy.cell? ⟨b2, of2 + m * 7 + 5, none⟩ = some (.int .u32 z.audit) := cell_later HI.out (HE2.out 5 _ rfl)
    have g6 : wy.cell? ⟨b2, of2 + m * 7 + 6, none⟩ = some (.int .u32 z.dont) := cell_later HI.out (HE2.out 6 _ rfl)
    go_wp2_with fail
    exact hK _ _ (Below.refl _ _) HI.out rfl
  · intro a wy L hl hi hL Q' hK
    try dsimp only at hi
    have HB := Lib.hid hi
    clear hi hL
    obtain ⟨_, rfl, _, rfl, _, rfl, _, rfl, _, rfl, _, rfl, _, rfl, _, rfl, rfl⟩ := hl
    simp only [List.setIfInBounds_toArray, List.set_cons_zero, List.set_cons_succ]
    have q := HQ.out
    go_wp2_with fail
    exact HEND.out _ _ _ _ _ _ _ _ _ HB.out
set_option maxRecDepth 100000 in
set_option maxHeartbeats 4000000 in
theorem same_any (w : World) (v1 v2 : Value) (a b : List AEntry) (h1 : SliceAt w v1 7 a.length (a.flatMap AEntry.cells)) (h2 : SliceAt w v2 7 b.length (b.flatMap AEntry.cells)) :
    Calls Try.prog 15 #[v1, v2] w fun e w' => e = .returned (.bool (decide (a = b))) ∧ RowKit.Below w.heap.size w w' := by
  obtain ⟨n, hn⟩ : ∃ n, n = a.length := ⟨_, rfl⟩
  obtain ⟨n2, hn2⟩ : ∃ n, n = b.length := ⟨_, rfl⟩
  rw [← hn] at h1
  rw [← hn2] at h2
  obtain ⟨p1, c1, rfl, hc1, hm1, hcell1⟩ := h1.form (by decide)
  obtain ⟨p2, c2, rfl, hc2, hm2, hcell2⟩ := h2.form (by decide)
  have HN := Lib.hid hn
  have HN2 := Lib.hid hn2
  have H1 := Lib.hid hcell1
  have H2 := Lib.hid hcell2
  obtain ⟨r, hr⟩ : ∃ r, r = decide (a = b) := ⟨_, rfl⟩
  rw [← hr]
  have HR := Lib.hid hr
  clear hn hn2 hcell1 hcell2 hr h1 h2
  by_cases hl : n = n2
  · subst hl
    go_enter Try.func15, Try.ntmps15
    go_wp2_with fail
    go_loopw [5] (fun i wr => ∃ m : Nat, m ≤ n ∧ i = .int .i64 m ∧ Hid (a.take m = b.take m) ∧ RowKit.Below w.heap.size w wr) (fun i _ => n - (intOf i).toNat)
    case atStart => exact ⟨0, Nat.zero_le _, rfl, Lib.hid (by simp), Below.refl _ _⟩
    case round =>
      obtain ⟨m, hm, rfl, HT, hBr⟩ := hrel
      have HBr := Lib.hid hBr
      clear hBr
      by_cases hlt : m < n
      · obtain ⟨y, hy⟩ : ∃ y, a[m]? = some y := ⟨_, List.getElem?_eq_getElem (by rw [← HN.out]; exact hlt)⟩
        obtain ⟨z, hz⟩ : ∃ z, b[m]? = some z := ⟨_, List.getElem?_eq_getElem (by rw [← HN2.out]; exact hlt)⟩
        obtain ⟨b1, of1, rfl, hcl⟩ := H1.out m hlt
        obtain ⟨b2, of2, rfl, hcl2⟩ := H2.out m hlt
        have HY := Lib.hid hy
        have HZ := Lib.hid hz
        have HT1 := Lib.hid (show a.take (m + 1) = a.take m ++ [y] from take_snoc hy)
        have HT2 := Lib.hid (show b.take (m + 1) = b.take m ++ [z] from take_snoc hz)
        have HC1 : ∀ j u, (y.cells)[j]? = some u → wr.cell? ⟨b1, of1 + m * 7 + j, none⟩ = some u := fun j u hu => cell_later HBr.out (hcl j u (by rw [flat_at entry_len hy j (by exact (List.getElem?_eq_some_iff.1 hu).1)]; exact hu))
        have HC2 : ∀ j u, (z.cells)[j]? = some u → wr.cell? ⟨b2, of2 + m * 7 + j, none⟩ = some u := fun j u hu => cell_later HBr.out (hcl2 j u (by rw [flat_at entry_len hz j (by exact (List.getElem?_eq_some_iff.1 hu).1)]; exact hu))
        clear hcl hcl2 hy hz
        have HE1 := Lib.hid HC1
        have HE2 := Lib.hid HC2
        clear HC1 HC2
        by_cases hyz : y = z
        · have HYZ := Lib.hid hyz
          clear hyz
          go_upto_region 6 with fail
          refine same6_15_t wr b1 of1 b2 of2 m n c1 c2 y z _ _ _ _ _ _ _ _ _ _ _ _ _ _ _ _ _ _ _ _ _ _ _ hlt HE1 HE2 (Lib.hid fun W => by rw [eq_entry, decide_eq_true HYZ.out]) ?_
          intro v17 v18 v19 v20 v21 v22 v23 v24 w6 hb6
          have HBE := Lib.hid (HBr.out.trans (hb6.mono HBr.out.size))
          clear hb6
          go_wp2
          go_roundw
          case rel => exact ⟨m + 1, by omega, by go_num, Lib.hid (by rw [HT1.out, HT2.out, HT.out, HYZ.out]), HBE.out⟩
          case measure => simp [intOf]; omega
        · have HYZ := Lib.hid hyz
          clear hyz
          go_upto_region 6 with fail
          refine same6_15_f wr b1 of1 b2 of2 m n c1 c2 y z _ _ _ _ _ _ _ _ _ _ _ _ _ _ _ _ _ _ _ _ _ _ _ hlt HE1 HE2 (Lib.hid fun W => by rw [eq_entry, decide_eq_false HYZ.out]) ?_
          intro v17 v18 v19 v20 v21 v22 v23 v24 w6 hb6
          have HBE := Lib.hid (HBr.out.trans (hb6.mono HBr.out.size))
          clear hb6
          go_wp2
          go_ret
          refine ⟨ret_val ?_, HBE.out⟩
          show Value.bool false = .bool r
          rw [HR.out, decide_eq_false]
          rintro rfl
          exact HYZ.out (Option.some.inj (HY.out.symm.trans HZ.out))
      · obtain rfl : m = n := by omega
        go_wp2
        go_ret
        refine ⟨ret_val ?_, HBr.out⟩
        show Value.bool true = .bool r
        rw [HR.out, decide_eq_true]
        have h := HT.out
        rwa [List.take_of_length_le (by rw [HN.out]; exact Nat.le_refl _), List.take_of_length_le (by rw [HN2.out]; exact Nat.le_refl _)] at h
  · have HL := Lib.hid hl
    have hd : ((n : Int) != (n2 : Int)) = true := by simp; omega
    clear hl
    go_enter Try.func15, Try.ntmps15
    go_wp2
    go_ret
    refine ⟨ret_val ?_, Below.refl _ _⟩
    show Value.bool false = .bool r
    rw [HR.out, decide_eq_false]
    rintro rfl
    exact HL.out (HN.out.trans HN2.out.symm)
set_option maxRecDepth 100000 in
set_option maxHeartbeats 4000000 in
theorem same6_24_t (w : World) (b1 of1 b2 of2 m n c1 c2 : Nat) (y z : Int) (x2 x3 x4 x6 x7 x8 x9 x10 x11 x12 x13 x14 x15 x16 x17 x18 x19 x20 x21 x22 x23 x24 x25 : Value) (hm : m < n) (HE1 : Hid (∀ j u, ([Value.int .i64 y])[j]? = some u → w.cell? ⟨b1, of1 + m * 1 + j, none⟩ = some u)) (HE2 : Hid (∀ j u, ([Value.int .i64 z])[j]? = some u → w.cell? ⟨b2, of2 + m * 1 + j, none⟩ = some u)) 
    {Q' : Exit → Act → World → Prop} (hend : ∀ (v17 v18 v19 v20 v21 v22 v23 v24 : Value) (w' : World), RowKit.Below w.heap.size w w' → Q' .normal ⟨#[.slice (some ⟨b1, of1, none⟩) n c1, .slice (some ⟨b2, of2, none⟩) n c2, x2, x3, x4, .int .i64 (m : Nat), x6, x7, x8, x9, x10, x11, x12, x13, x14, x15, x16, v17, v18, v19, v20, v21, v22, v23, v24, .bool (y != z)], []⟩ w') :
    Code.wp Try.prog (findRegion7 6 ((Try.f24.body).getD .skip)) Q' ⟨#[.slice (some ⟨b1, of1, none⟩) n c1, .slice (some ⟨b2, of2, none⟩) n c2, x2, x3, x4, .int .i64 (m : Nat), x6, x7, x8, x9, x10, x11, x12, x13, x14, x15, x16, x17, x18, x19, x20, x21, x22, x23, x24, x25], []⟩ w := by
  have HEND := Lib.hid hend
  clear hend
  conv => arg 2; whnf
  conv => arg 4; dsimp only
  refine wp_region_goods [some 17, some 18, some 19, some 20, some 21, some 22, some 23, some 24] [isW (.slice (some ⟨b1, of1, none⟩) n c1), isW (.int .i64 (m : Nat)), isW (.pointer (some ⟨b1, of1 + m, none⟩)), isW (.int .i64 y), isW (.slice (some ⟨b2, of2, none⟩) n c2), isW (.int .i64 (m : Nat)), isW (.pointer (some ⟨b2, of2 + m, none⟩)), isW (.int .i64 z)] (fun _ w' => RowKit.Below w.heap.size w w') [] (by kernel_rfl) (by kernel_rfl) (by kernel_rfl) rfl (by decide) rfl rfl ((Below.refl _ _).drew) ⟨lastsW_is _, lastsW_is _, lastsW_is _, lastsW_is _, lastsW_is _, lastsW_is _, lastsW_is _, lastsW_is _, trivial⟩ ⟨?_, ?_, ?_, ?_, ?_, ?_, ?_, ?_, ?_⟩
  · intro L a wy Q' hL hi H F hK
    try dsimp only at hi
    have h0 : a.tmps[0]? = some (.slice (some ⟨b1, of1, none⟩) n c1) := F 0 rfl
    have HI := Lib.hid hi
    clear H F hi hL
    go_wp2_with fail
    exact hK _ _ (Below.refl _ _) HI.out rfl
  · intro L a wy Q' hL hi H F hK
    try dsimp only at hi
    have h5 : a.tmps[5]? = some (.int .i64 (m : Nat)) := F 5 rfl
    have HI := Lib.hid hi
    clear H F hi hL
    go_wp2_with fail
    exact hK _ _ (Below.refl _ _) HI.out rfl
  · intro L a wy Q' hL hi H F hK
    try dsimp only at hi
    obtain ⟨_, h17, rfl⟩ := H 0 ⟨.data, by simp, rfl⟩ _ rfl
    replace h17 := h17 _ rfl
    obtain ⟨_, h18, rfl⟩ := H 1 ⟨.data, by simp, rfl⟩ _ rfl
    replace h18 := h18 _ rfl
    have HI := Lib.hid hi
    clear H F hi hL
    go_wp2_with fail
    exact hK _ _ (Below.refl _ _) HI.out rfl
  · intro L a wy Q' hL hi H F hK
    try dsimp only at hi
    obtain ⟨_, h19, rfl⟩ := H 2 ⟨.data, by simp, rfl⟩ _ rfl
    replace h19 := h19 _ rfl
    have HI := Lib.hid hi
    clear H F hi hL
    have e0 : wy.cell? ⟨b1, of1 + m, none⟩ = some (.int .i64 y) := by have h := cell_later HI.out (HE1.out 0 _ rfl); rwa [Nat.mul_one, Nat.add_zero] at h
    go_wp2_with fail
    exact hK _ _ (Below.refl _ _) HI.out rfl
  · intro L a wy Q' hL hi H F hK
    try dsimp only at hi
    have h1 : a.tmps[1]? = some (.slice (some ⟨b2, of2, none⟩) n c2) := F 1 rfl
    have HI := Lib.hid hi
    clear H F hi hL
    go_wp2_with fail
    exact hK _ _ (Below.refl _ _) HI.out rfl
  · intro L a wy Q' hL hi H F hK
    try dsimp only at hi
    have h5 : a.tmps[5]? = some (.int .i64 (m : Nat)) := F 5 rfl
    have HI := Lib.hid hi
    clear H F hi hL
    go_wp2_with fail
    exact hK _ _ (Below.refl _ _) HI.out rfl
  · intro L a wy Q' hL hi H F hK
    try dsimp only at hi
    obtain ⟨_, h21, rfl⟩ := H 4 ⟨.data, by simp, rfl⟩ _ rfl
    replace h21 := h21 _ rfl
    obtain ⟨_, h22, rfl⟩ := H 5 ⟨.data, by simp, rfl⟩ _ rfl
    replace h22 := h22 _ rfl
    have HI := Lib.hid hi
    clear H F hi hL
    go_wp2_with fail
    exact hK _ _ (Below.refl _ _) HI.out rfl
  · intro L a wy Q' hL hi H F hK
    try dsimp only at hi
    obtain ⟨_, h23, rfl⟩ := H 6 ⟨.data, by simp, rfl⟩ _ rfl
    replace h23 := h23 _ rfl
    have HI := Lib.hid hi
    clear H F hi hL
    have g0 : wy.cell? ⟨b2, of2 + m, none⟩ = some (.int .i64 z) := by have h := cell_later HI.out (HE2.out 0 _ rfl); rwa [Nat.mul_one, Nat.add_zero] at h
    go_wp2_with fail
    exact hK _ _ (Below.refl _ _) HI.out rfl
  · intro a wy L hl hi hL Q' hK
    try dsimp only at hi
    have HB := Lib.hid hi
    clear hi hL
    obtain ⟨_, rfl, _, rfl, _, rfl, _, rfl, _, rfl, _, rfl, _, rfl, _, rfl, rfl⟩ := hl
    simp only [List.setIfInBounds_toArray, List.set_cons_zero, List.set_cons_succ]
    go_wp2_with fail
    exact HEND.out _ _ _ _ _ _ _ _ _ HB.out
set_option maxRecDepth 100000 in
set_option maxHeartbeats 4000000 in
theorem ints_any (w : World) (v1 v2 : Value) (a b : List Int) (h1 : SliceAt w v1 1 a.length (a.flatMap oneInt)) (h2 : SliceAt w v2 1 b.length (b.flatMap oneInt)) :
    Calls Try.prog 24 #[v1, v2] w fun e w' => e = .returned (.bool (decide (a = b))) ∧ RowKit.Below w.heap.size w w' := by
  obtain ⟨n, hn⟩ : ∃ n, n = a.length := ⟨_, rfl⟩
  obtain ⟨n2, hn2⟩ : ∃ n, n = b.length := ⟨_, rfl⟩
  rw [← hn] at h1
  rw [← hn2] at h2
  obtain ⟨p1, c1, rfl, hc1, hm1, hcell1⟩ := h1.form (by decide)
  obtain ⟨p2, c2, rfl, hc2, hm2, hcell2⟩ := h2.form (by decide)
  have HN := Lib.hid hn
  have HN2 := Lib.hid hn2
  have H1 := Lib.hid hcell1
  have H2 := Lib.hid hcell2
  obtain ⟨r, hr⟩ : ∃ r, r = decide (a = b) := ⟨_, rfl⟩
  rw [← hr]
  have HR := Lib.hid hr
  clear hn hn2 hcell1 hcell2 hr h1 h2
  by_cases hl : n = n2
  · subst hl
    go_enter Try.func24, Try.ntmps24
    go_wp2_with fail
    go_loopw [5] (fun i wr => ∃ m : Nat, m ≤ n ∧ i = .int .i64 m ∧ Hid (a.take m = b.take m) ∧ RowKit.Below w.heap.size w wr) (fun i _ => n - (intOf i).toNat)
    case atStart => exact ⟨0, Nat.zero_le _, rfl, Lib.hid (by simp), Below.refl _ _⟩
    case round =>
      obtain ⟨m, hm, rfl, HT, hBr⟩ := hrel
      have HBr := Lib.hid hBr
      clear hBr
      by_cases hlt : m < n
      · obtain ⟨y, hy⟩ : ∃ y, a[m]? = some y := ⟨_, List.getElem?_eq_getElem (by rw [← HN.out]; exact hlt)⟩
        obtain ⟨z, hz⟩ : ∃ z, b[m]? = some z := ⟨_, List.getElem?_eq_getElem (by rw [← HN2.out]; exact hlt)⟩
        obtain ⟨b1, of1, rfl, hcl⟩ := H1.out m hlt
        obtain ⟨b2, of2, rfl, hcl2⟩ := H2.out m hlt
        have HY := Lib.hid hy
        have HZ := Lib.hid hz
        have HT1 := Lib.hid (show a.take (m + 1) = a.take m ++ [y] from take_snoc hy)
        have HT2 := Lib.hid (show b.take (m + 1) = b.take m ++ [z] from take_snoc hz)
        have HC1 : ∀ j u, ([Value.int .i64 y])[j]? = some u → wr.cell? ⟨b1, of1 + m * 1 + j, none⟩ = some u := fun j u hu => cell_later HBr.out (hcl j u (by rw [flat_at oneInt_len hy j (by exact (List.getElem?_eq_some_iff.1 hu).1)]; exact hu))
        have HC2 : ∀ j u, ([Value.int .i64 z])[j]? = some u → wr.cell? ⟨b2, of2 + m * 1 + j, none⟩ = some u := fun j u hu => cell_later HBr.out (hcl2 j u (by rw [flat_at oneInt_len hz j (by exact (List.getElem?_eq_some_iff.1 hu).1)]; exact hu))
        clear hcl hcl2 hy hz
        have HE1 := Lib.hid HC1
        have HE2 := Lib.hid HC2
        clear HC1 HC2
        by_cases hyz : y = z
        · have HYZ := Lib.hid hyz
          clear hyz
          have q2 : (y != z) = false := by simp [HYZ.out]
          go_upto_region 6 with fail
          refine same6_24_t wr b1 of1 b2 of2 m n c1 c2 y z _ _ _ _ _ _ _ _ _ _ _ _ _ _ _ _ _ _ _ _ _ _ _ hlt HE1 HE2  ?_
          intro v17 v18 v19 v20 v21 v22 v23 v24 w6 hb6
          have HBE := Lib.hid (HBr.out.trans (hb6.mono HBr.out.size))
          clear hb6
          go_wp2
          go_roundw
          case rel => exact ⟨m + 1, by omega, by go_num, Lib.hid (by rw [HT1.out, HT2.out, HT.out, HYZ.out]), HBE.out⟩
          case measure => simp [intOf]; omega
        · have HYZ := Lib.hid hyz
          clear hyz
          have q2 : (y != z) = true := by simp [HYZ.out]
          go_upto_region 6 with fail
          refine same6_24_t wr b1 of1 b2 of2 m n c1 c2 y z _ _ _ _ _ _ _ _ _ _ _ _ _ _ _ _ _ _ _ _ _ _ _ hlt HE1 HE2  ?_
          intro v17 v18 v19 v20 v21 v22 v23 v24 w6 hb6
          have HBE := Lib.hid (HBr.out.trans (hb6.mono HBr.out.size))
          clear hb6
          go_wp2
          go_ret
          refine ⟨ret_val ?_, HBE.out⟩
          show Value.bool false = .bool r
          rw [HR.out, decide_eq_false]
          rintro rfl
          exact HYZ.out (Option.some.inj (HY.out.symm.trans HZ.out))
      · obtain rfl : m = n := by omega
        go_wp2
        go_ret
        refine ⟨ret_val ?_, HBr.out⟩
        show Value.bool true = .bool r
        rw [HR.out, decide_eq_true]
        have h := HT.out
        rwa [List.take_of_length_le (by rw [HN.out]; exact Nat.le_refl _), List.take_of_length_le (by rw [HN2.out]; exact Nat.le_refl _)] at h
  · have HL := Lib.hid hl
    have hd : ((n : Int) != (n2 : Int)) = true := by simp; omega
    clear hl
    go_enter Try.func24, Try.ntmps24
    go_wp2
    go_ret
    refine ⟨ret_val ?_, Below.refl _ _⟩
    show Value.bool false = .bool r
    rw [HR.out, decide_eq_false]
    rintro rfl
    exact HL.out (HN.out.trans HN2.out.symm)
end Go.Proofs.Ytlkkdpoliafjbaa
