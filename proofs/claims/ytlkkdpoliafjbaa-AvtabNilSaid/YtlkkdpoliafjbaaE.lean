import Derived.Test.YtlkkdpoliafjbaaD
/-
  slices.BinarySearchFunc at keys.
-/
namespace Go.Proofs.Ytlkkdpoliafjbaa
open Go Go.WideMaps Go.RowKit

def findRegion7 (k : Nat) : Code → Code
  | .seq a b => match findRegion7 k a with
    | .skip => findRegion7 k b
    | c => c
  | .cond _ a b => match findRegion7 k a with
    | .skip => findRegion7 k b
    | c => c
  | .block _ a => findRegion7 k a
  | .loop a => findRegion7 k a
  | .region id ops d => if id = k then .region id ops d else .skip
  | _ => .skip
set_option maxRecDepth 100000 in
set_option maxHeartbeats 4000000 in
theorem bs5 (w : World) (kb b off h n c : Nat) (k y : Key4) (z : Int)  (x1 x3 x5 x6 x7 x8 x9 x10 x12 x13 x14 x15 x16 x17 x18 x19 x20 x21 x22 x23 x24 x25 x26 x27 x28 x29 x30 x31 x32 x33 x34 x35 x36 x37 x38 x39 x40 x41 x42 x43 x44 x45 x46 x47 x48 : Value) (hin : h < n) (HK : Hid (Whole w kb 60 #[.int .i64 k.src, .int .i64 k.tgt, .int .i64 k.cls, .int .i64 k.cond])) (HE : Hid (∀ j u, y.cells[j]? = some u → w.cell? ⟨b, off + h * 4 + j, none⟩ = some u)) (HC : Hid (∀ W, Calls Try.prog 45 #[.agg #[.int .i64 y.src, .int .i64 y.tgt, .int .i64 y.cls, .int .i64 y.cond], .agg #[.int .i64 k.src, .int .i64 k.tgt, .int .i64 k.cls, .int .i64 k.cond]] W fun e w' => e = .returned (.int .i64 z) ∧ RowKit.Below W.heap.size W w')) 
    {Q' : Exit → Act → World → Prop} (hend : ∀ (v24 v25 v26 v27 v28 v29 v30 : Value) (w' : World), RowKit.Below w.heap.size w w' → Q' .normal ⟨#[.slice (some ⟨b, off, none⟩) n c, x1, .func (.func 45) #[] #[], x3, .pointer (some ⟨kb, 0, none⟩), x5, x6, x7, x8, x9, x10, .int .i64 (h : Int), x12, x13, x14, x15, x16, x17, x18, x19, x20, x21, x22, x23, v24, v25, v26, v27, v28, v29, v30, .bool (decide (z < 0)), x32, x33, x34, x35, x36, x37, x38, x39, x40, x41, x42, x43, x44, x45, x46, x47, x48], []⟩ w') :
    Code.wp Try.prog (findRegion7 5 ((Try.f44.body).getD .skip)) Q' ⟨#[.slice (some ⟨b, off, none⟩) n c, x1, .func (.func 45) #[] #[], x3, .pointer (some ⟨kb, 0, none⟩), x5, x6, x7, x8, x9, x10, .int .i64 (h : Int), x12, x13, x14, x15, x16, x17, x18, x19, x20, x21, x22, x23, x24, x25, x26, x27, x28, x29, x30, x31, x32, x33, x34, x35, x36, x37, x38, x39, x40, x41, x42, x43, x44, x45, x46, x47, x48], []⟩ w := by
  have HEND := Lib.hid hend
  clear hend
  conv => arg 2; whnf
  conv => arg 4; dsimp only
  refine wp_region_goods [some 24, some 25, some 26, some 27, some 28, some 29, some 30] [isW (.func (.func 45) #[] #[]), isW (.slice (some ⟨b, off, none⟩) n c), isW (.int .i64 (h : Int)), isW (.pointer (some ⟨b, off + h * 4, none⟩)), isW (.agg #[.int .i64 y.src, .int .i64 y.tgt, .int .i64 y.cls, .int .i64 y.cond]), isW (.agg #[.int .i64 k.src, .int .i64 k.tgt, .int .i64 k.cls, .int .i64 k.cond]), isW (.int .i64 z)] (fun _ w' => RowKit.Below w.heap.size w w') [] (by kernel_rfl) (by kernel_rfl) (by kernel_rfl) rfl (by decide) rfl rfl ((Below.refl _ _).drew) ⟨lastsW_is _, lastsW_is _, lastsW_is _, lastsW_is _, lastsW_is _, lastsW_is _, lastsW_is _, trivial⟩ ⟨?_, ?_, ?_, ?_, ?_, ?_, ?_, ?_⟩
  · intro L a wy Q' hL hi H F hK
    try dsimp only at hi
    have h2 : a.tmps[2]? = some (.func (.func 45) #[] #[]) := F 2 rfl
    have HI := Lib.hid hi
    clear H F hi hL
    go_wp2_with fail
    exact hK _ _ (Below.refl _ _) HI.out rfl
  · intro L a wy Q' hL hi H F hK
    try dsimp only at hi
    have h0 : a.tmps[0]? = some (.slice (some ⟨b, off, none⟩) n c) := F 0 rfl
    have HI := Lib.hid hi
    clear H F hi hL
    go_wp2_with fail
    exact hK _ _ (Below.refl _ _) HI.out rfl
  · intro L a wy Q' hL hi H F hK
    try dsimp only at hi
    have h11 : a.tmps[11]? = some (.int .i64 (h : Int)) := F 11 rfl
    have HI := Lib.hid hi
    clear H F hi hL
    go_wp2_with fail
    exact hK _ _ (Below.refl _ _) HI.out rfl
  · intro L a wy Q' hL hi H F hK
    try dsimp only at hi
    obtain ⟨_, h25, rfl⟩ := H 1 ⟨.data, by simp, rfl⟩ _ rfl
    replace h25 := h25 _ rfl
    obtain ⟨_, h26, rfl⟩ := H 2 ⟨.data, by simp, rfl⟩ _ rfl
    replace h26 := h26 _ rfl
    have HI := Lib.hid hi
    clear H F hi hL
    go_wp2_with fail
    exact hK _ _ (Below.refl _ _) HI.out rfl
  · intro L a wy Q' hL hi H F hK
    try dsimp only at hi
    obtain ⟨_, h27, rfl⟩ := H 3 ⟨.data, by simp, rfl⟩ _ rfl
    replace h27 := h27 _ rfl
    have HI := Lib.hid hi
    clear H F hi hL
    have kq0 : wy.cell? ⟨b, off + h * 4, none⟩ = some (.int .i64 y.src) := cell_later HI.out (HE.out 0 _ rfl)
    have kq1 : wy.cell? ⟨b, off + h * 4 + 1, none⟩ = some (.int .i64 y.tgt) := cell_later HI.out (HE.out 1 _ rfl)
    have kq2 : wy.cell? ⟨b, off + h * 4 + 2, none⟩ = some (.int .i64 y.cls) := cell_later HI.out (HE.out 2 _ rfl)
    have kq3 : wy.cell? ⟨b, off + h * 4 + 3, none⟩ = some (.int .i64 y.cond) := cell_later HI.out (HE.out 3 _ rfl)
    go_wp2_with fail
    exact hK _ _ (Below.refl _ _) HI.out rfl
  · intro L a wy Q' hL hi H F hK
    try dsimp only at hi
    have h4 : a.tmps[4]? = some (.pointer (some ⟨kb, 0, none⟩)) := F 4 rfl
    have HI := Lib.hid hi
    clear H F hi hL
    have kq0 : wy.cell? ⟨kb, 0, none⟩ = some (.int .i64 k.src) := (Whole.under HI.out HK.out (Whole.lt HK.out)).cell 0
    have kq1 : wy.cell? ⟨kb, 1, none⟩ = some (.int .i64 k.tgt) := (Whole.under HI.out HK.out (Whole.lt HK.out)).cell 1
    have kq2 : wy.cell? ⟨kb, 2, none⟩ = some (.int .i64 k.cls) := (Whole.under HI.out HK.out (Whole.lt HK.out)).cell 2
    have kq3 : wy.cell? ⟨kb, 3, none⟩ = some (.int .i64 k.cond) := (Whole.under HI.out HK.out (Whole.lt HK.out)).cell 3
    go_wp2_with fail
    exact hK _ _ (Below.refl _ _) HI.out rfl
  · intro L a wy Q' hL hi H F hK
    try dsimp only at hi
    obtain ⟨_, h24, rfl⟩ := H 0 ⟨.data, by simp, rfl⟩ _ rfl
    replace h24 := h24 _ rfl
    obtain ⟨_, h28, rfl⟩ := H 4 ⟨.data, by simp, rfl⟩ _ rfl
    replace h28 := h28 _ rfl
    obtain ⟨_, h29, rfl⟩ := H 5 ⟨.data, by simp, rfl⟩ _ rfl
    replace h29 := h29 _ rfl
    have HI := Lib.hid hi
    clear H F hi hL
    have HK := Lib.hid hK
    clear hK
    go_wp2_with (go_at_call 45; go_must (refine (HC.out wy).mono ?_; rintro e w1 ⟨rfl, hb1⟩))
    exact HK.out _ _ hb1 (HI.out.trans (hb1.mono HI.out.size)) rfl
  · intro a wy L hl hi hL Q' hK
    try dsimp only at hi
    have HB := Lib.hid hi
    clear hi hL
    obtain ⟨_, rfl, _, rfl, _, rfl, _, rfl, _, rfl, _, rfl, _, rfl, rfl⟩ := hl
    simp only [List.setIfInBounds_toArray, List.set_cons_zero, List.set_cons_succ]
    go_wp2_with fail
    exact HEND.out _ _ _ _ _ _ _ _ HB.out
set_option maxRecDepth 100000 in
set_option maxHeartbeats 4000000 in
theorem bs8_t (w : World) (kb b off i n c : Nat) (k y : Key4) (z : Int) (x1 x3 x5 x6 x7 x10 x11 x12 x13 x14 x15 x16 x17 x18 x19 x20 x21 x22 x23 x24 x25 x26 x27 x28 x29 x30 x31 x32 x33 x34 x35 x36 x37 x38 x39 x40 x41 x42 x43 x44 x45 x46 x47 x48 : Value) (hin : i < n) (HK : Hid (Whole w kb 60 #[.int .i64 k.src, .int .i64 k.tgt, .int .i64 k.cls, .int .i64 k.cond])) (HE : Hid (∀ j u, y.cells[j]? = some u → w.cell? ⟨b, off + i * 4 + j, none⟩ = some u)) (HC : Hid (∀ W, Calls Try.prog 45 #[.agg #[.int .i64 y.src, .int .i64 y.tgt, .int .i64 y.cls, .int .i64 y.cond], .agg #[.int .i64 k.src, .int .i64 k.tgt, .int .i64 k.cls, .int .i64 k.cond]] W fun e w' => e = .returned (.int .i64 z) ∧ RowKit.Below W.heap.size W w'))
    {Q' : Exit → Act → World → Prop} (hend : ∀ (v35 v36 v37 v38 v39 v40 v41 v42 v43 v44 v45 v46 v47 v48 : Value) (w' : World), RowKit.Below w.heap.size w w' → Q' .normal ⟨#[.slice (some ⟨b, off, none⟩) n c, x1, .func (.func 45) #[] #[], x3, .pointer (some ⟨kb, 0, none⟩), x5, .int .i64 (i : Int), .bool (z == 0), .int .i64 (n : Int), .int .i64 (i : Int), x10, x11, x12, x13, x14, x15, x16, x17, x18, x19, x20, x21, x22, x23, x24, x25, x26, x27, x28, x29, x30, x31, x32, x33, x34, v35, v36, v37, v38, v39, v40, v41, v42, v43, v44, v45, v46, v47, v48], []⟩ w') :
    Code.wp Try.prog (findRegion7 8 ((Try.f44.body).getD .skip)) Q' ⟨#[.slice (some ⟨b, off, none⟩) n c, x1, .func (.func 45) #[] #[], x3, .pointer (some ⟨kb, 0, none⟩), x5, x6, x7, .int .i64 (n : Int), .int .i64 (i : Int), x10, x11, x12, x13, x14, x15, x16, x17, x18, x19, x20, x21, x22, x23, x24, x25, x26, x27, x28, x29, x30, x31, x32, x33, x34, x35, x36, x37, x38, x39, x40, x41, x42, x43, x44, x45, x46, x47, x48], []⟩ w := by
  have HEND := Lib.hid hend
  clear hend
  conv => arg 2; whnf
  conv => arg 4; dsimp only
  refine wp_region_goods [some 35, some 36, some 37, some 38, some 39, some 40, some 41, some 42, some 43, some 44, some 45, some 46, some 47, some 48, some 6] [isW (.int .i64 (i : Int)), isW (.int .i64 (i : Int)), isW (.int .i64 (n : Int)), isW (.bool true), isW (.bool true), isW (.func (.func 45) #[] #[]), isW (.slice (some ⟨b, off, none⟩) n c), isW (.int .i64 (i : Int)), isW (.pointer (some ⟨b, off + i * 4, none⟩)), isW (.agg #[.int .i64 y.src, .int .i64 y.tgt, .int .i64 y.cls, .int .i64 y.cond]), isW (.agg #[.int .i64 k.src, .int .i64 k.tgt, .int .i64 k.cls, .int .i64 k.cond]), isW (.int .i64 z), isW (.bool (z == 0)), isW (.bool (z == 0)), isW (.int .i64 (i : Int))] (fun _ w' => RowKit.Below w.heap.size w w') [] (by kernel_rfl) (by kernel_rfl) (by kernel_rfl) rfl (by decide) rfl rfl ((Below.refl _ _).drew) ⟨lastsW_is _, lastsW_is _, lastsW_is _, lastsW_is _, lastsW_is _, lastsW_is _, lastsW_is _, lastsW_is _, lastsW_is _, lastsW_is _, lastsW_is _, lastsW_is _, lastsW_is _, lastsW_is _, lastsW_is _, trivial⟩ ⟨?_, ?_, ?_, ?_, ?_, ?_, ?_, ?_, ?_, ?_, ?_, ?_, ?_, ?_, ?_, ?_⟩
  · intro L a wy Q' hL hi H F hK
    try dsimp only at hi
    have h9 : a.tmps[9]? = some (.int .i64 (i : Int)) := F 9 rfl
    have HI := Lib.hid hi
    clear H F hi hL
    go_wp2_with fail
    exact hK _ _ (Below.refl _ _) HI.out rfl
  · intro L a wy Q' hL hi H F hK
    try dsimp only at hi
    have h9 : a.tmps[9]? = some (.int .i64 (i : Int)) := F 9 rfl
    have HI := Lib.hid hi
    clear H F hi hL
    go_wp2_with fail
    exact hK _ _ (Below.refl _ _) HI.out rfl
  · intro L a wy Q' hL hi H F hK
    try dsimp only at hi
    have h8 : a.tmps[8]? = some (.int .i64 (n : Int)) := F 8 rfl
    have HI := Lib.hid hi
    clear H F hi hL
    go_wp2_with fail
    exact hK _ _ (Below.refl _ _) HI.out rfl
  · intro L a wy Q' hL hi H F hK
    try dsimp only at hi
    obtain ⟨_, h36, rfl⟩ := H 1 ⟨.data, by simp, rfl⟩ _ rfl
    replace h36 := h36 _ rfl
    obtain ⟨_, h37, rfl⟩ := H 2 ⟨.data, by simp, rfl⟩ _ rfl
    replace h37 := h37 _ rfl
    have HI := Lib.hid hi
    clear H F hi hL
    go_wp2_with fail
    exact hK _ _ (Below.refl _ _) HI.out rfl
  · intro L a wy Q' hL hi H F hK
    try dsimp only at hi
    obtain ⟨_, h38, rfl⟩ := H 3 ⟨.data, by simp, rfl⟩ _ rfl
    replace h38 := h38 _ rfl
    have HI := Lib.hid hi
    clear H F hi hL
    go_wp2_with fail
    exact hK _ _ (Below.refl _ _) HI.out rfl
  · intro L a wy Q' hL hi H F hK
    try dsimp only at hi
    obtain ⟨_, h39, rfl⟩ := H 4 ⟨.guard, by simp, rfl⟩ _ rfl
    replace h39 := h39 _ rfl
    have h2 : a.tmps[2]? = some (.func (.func 45) #[] #[]) := F 2 rfl
    have HI := Lib.hid hi
    clear H F hi hL
    go_wp2_with fail
    exact hK _ _ (Below.refl _ _) HI.out rfl
  · intro L a wy Q' hL hi H F hK
    try dsimp only at hi
    obtain ⟨_, h39, rfl⟩ := H 4 ⟨.guard, by simp, rfl⟩ _ rfl
    replace h39 := h39 _ rfl
    have h0 : a.tmps[0]? = some (.slice (some ⟨b, off, none⟩) n c) := F 0 rfl
    have HI := Lib.hid hi
    clear H F hi hL
    go_wp2_with fail
    exact hK _ _ (Below.refl _ _) HI.out rfl
  · intro L a wy Q' hL hi H F hK
    try dsimp only at hi
    obtain ⟨_, h39, rfl⟩ := H 4 ⟨.guard, by simp, rfl⟩ _ rfl
    replace h39 := h39 _ rfl
    have h9 : a.tmps[9]? = some (.int .i64 (i : Int)) := F 9 rfl
    have HI := Lib.hid hi
    clear H F hi hL
    go_wp2_with fail
    exact hK _ _ (Below.refl _ _) HI.out rfl
  · intro L a wy Q' hL hi H F hK
    try dsimp only at hi
    obtain ⟨_, h41, rfl⟩ := H 6 ⟨.data, by simp, rfl⟩ _ rfl
    replace h41 := h41 _ rfl
    obtain ⟨_, h42, rfl⟩ := H 7 ⟨.data, by simp, rfl⟩ _ rfl
    replace h42 := h42 _ rfl
    obtain ⟨_, h39, rfl⟩ := H 4 ⟨.guard, by simp, rfl⟩ _ rfl
    replace h39 := h39 _ rfl
    have HI := Lib.hid hi
    clear H F hi hL
    go_wp2_with fail
    exact hK _ _ (Below.refl _ _) HI.out rfl
  · intro L a wy Q' hL hi H F hK
    try dsimp only at hi
    obtain ⟨_, h43, rfl⟩ := H 8 ⟨.data, by simp, rfl⟩ _ rfl
    replace h43 := h43 _ rfl
    obtain ⟨_, h39, rfl⟩ := H 4 ⟨.guard, by simp, rfl⟩ _ rfl
    replace h39 := h39 _ rfl
    have HI := Lib.hid hi
    clear H F hi hL
    have kq0 : wy.cell? ⟨b, off + i * 4, none⟩ = some (.int .i64 y.src) := cell_later HI.out (HE.out 0 _ rfl)
    have kq1 : wy.cell? ⟨b, off + i * 4 + 1, none⟩ = some (.int .i64 y.tgt) := cell_later HI.out (HE.out 1 _ rfl)
    have kq2 : wy.cell? ⟨b, off + i * 4 + 2, none⟩ = some (.int .i64 y.cls) := cell_later HI.out (HE.out 2 _ rfl)
    have kq3 : wy.cell? ⟨b, off + i * 4 + 3, none⟩ = some (.int .i64 y.cond) := cell_later HI.out (HE.out 3 _ rfl)
    go_wp2_with fail
    exact hK _ _ (Below.refl _ _) HI.out rfl
  · intro L a wy Q' hL hi H F hK
    try dsimp only at hi
    obtain ⟨_, h39, rfl⟩ := H 4 ⟨.guard, by simp, rfl⟩ _ rfl
    replace h39 := h39 _ rfl
    have h4 : a.tmps[4]? = some (.pointer (some ⟨kb, 0, none⟩)) := F 4 rfl
    have HI := Lib.hid hi
    clear H F hi hL
    have kq0 : wy.cell? ⟨kb, 0, none⟩ = some (.int .i64 k.src) := (Whole.under HI.out HK.out (Whole.lt HK.out)).cell 0
    have kq1 : wy.cell? ⟨kb, 1, none⟩ = some (.int .i64 k.tgt) := (Whole.under HI.out HK.out (Whole.lt HK.out)).cell 1
    have kq2 : wy.cell? ⟨kb, 2, none⟩ = some (.int .i64 k.cls) := (Whole.under HI.out HK.out (Whole.lt HK.out)).cell 2
    have kq3 : wy.cell? ⟨kb, 3, none⟩ = some (.int .i64 k.cond) := (Whole.under HI.out HK.out (Whole.lt HK.out)).cell 3
    go_wp2_with fail
    exact hK _ _ (Below.refl _ _) HI.out rfl
  · intro L a wy Q' hL hi H F hK
    try dsimp only at hi
    obtain ⟨_, h40, rfl⟩ := H 5 ⟨.data, by simp, rfl⟩ _ rfl
    replace h40 := h40 _ rfl
    obtain ⟨_, h44, rfl⟩ := H 9 ⟨.data, by simp, rfl⟩ _ rfl
    replace h44 := h44 _ rfl
    obtain ⟨_, h45, rfl⟩ := H 10 ⟨.data, by simp, rfl⟩ _ rfl
    replace h45 := h45 _ rfl
    obtain ⟨_, h39, rfl⟩ := H 4 ⟨.guard, by simp, rfl⟩ _ rfl
    replace h39 := h39 _ rfl
    have HI := Lib.hid hi
    clear H F hi hL
    have HK := Lib.hid hK
    clear hK
    go_wp2_with (go_at_call 45; go_must (refine (HC.out wy).mono ?_; rintro e w1 ⟨rfl, hb1⟩))
    exact HK.out _ _ hb1 (HI.out.trans (hb1.mono HI.out.size)) rfl
  · intro L a wy Q' hL hi H F hK
    try dsimp only at hi
    obtain ⟨_, h46, rfl⟩ := H 11 ⟨.data, by simp, rfl⟩ _ rfl
    replace h46 := h46 _ rfl
    obtain ⟨_, h39, rfl⟩ := H 4 ⟨.guard, by simp, rfl⟩ _ rfl
    replace h39 := h39 _ rfl
    have HI := Lib.hid hi
    clear H F hi hL
    go_wp2_with fail
    exact hK _ _ (Below.refl _ _) HI.out rfl
  · intro L a wy Q' hL hi H F hK
    try dsimp only at hi
    obtain ⟨_, h39, rfl⟩ := H 4 ⟨.data, by simp, rfl⟩ _ rfl
    replace h39 := h39 _ rfl
    obtain ⟨_, h47, rfl⟩ := H 12 ⟨.data, by simp, rfl⟩ _ rfl
    replace h47 := h47 _ rfl
    have HI := Lib.hid hi
    clear H F hi hL
    go_wp2_with fail
    exact hK _ _ (Below.refl _ _) HI.out rfl
  · intro L a wy Q' hL hi H F hK
    try dsimp only at hi
    obtain ⟨_, h35, rfl⟩ := H 0 ⟨.data, by simp, rfl⟩ _ rfl
    replace h35 := h35 _ rfl
    have HI := Lib.hid hi
    clear H F hi hL
    go_wp2_with fail
    exact hK _ _ (Below.refl _ _) HI.out rfl
  · intro a wy L hl hi hL Q' hK
    try dsimp only at hi
    have HB := Lib.hid hi
    clear hi hL
    obtain ⟨_, rfl, _, rfl, _, rfl, _, rfl, _, rfl, _, rfl, _, rfl, _, rfl, _, rfl, _, rfl, _, rfl, _, rfl, _, rfl, _, rfl, _, rfl, rfl⟩ := hl
    simp only [List.setIfInBounds_toArray, List.set_cons_zero, List.set_cons_succ]
    go_wp2_with fail
    exact HEND.out _ _ _ _ _ _ _ _ _ _ _ _ _ _ _ HB.out
set_option maxRecDepth 100000 in
set_option maxHeartbeats 4000000 in
theorem bs8_f (w : World) (kb i n c : Nat) (ad : Option Addr) (x1 x3 x5 x6 x7 x10 x11 x12 x13 x14 x15 x16 x17 x18 x19 x20 x21 x22 x23 x24 x25 x26 x27 x28 x29 x30 x31 x32 x33 x34 x35 x36 x37 x38 x39 x40 x41 x42 x43 x44 x45 x46 x47 x48 : Value) (hin : ¬ i < n)
    {Q' : Exit → Act → World → Prop} (hend : ∀ (v35 v36 v37 v38 v39 v40 v41 v42 v43 v44 v45 v46 v47 v48 : Value) (w' : World), RowKit.Below w.heap.size w w' → Q' .normal ⟨#[.slice ad n c, x1, .func (.func 45) #[] #[], x3, .pointer (some ⟨kb, 0, none⟩), x5, .int .i64 (i : Int), .bool false, .int .i64 (n : Int), .int .i64 (i : Int), x10, x11, x12, x13, x14, x15, x16, x17, x18, x19, x20, x21, x22, x23, x24, x25, x26, x27, x28, x29, x30, x31, x32, x33, x34, v35, v36, v37, v38, v39, v40, v41, v42, v43, v44, v45, v46, v47, v48], []⟩ w') :
    Code.wp Try.prog (findRegion7 8 ((Try.f44.body).getD .skip)) Q' ⟨#[.slice ad n c, x1, .func (.func 45) #[] #[], x3, .pointer (some ⟨kb, 0, none⟩), x5, x6, x7, .int .i64 (n : Int), .int .i64 (i : Int), x10, x11, x12, x13, x14, x15, x16, x17, x18, x19, x20, x21, x22, x23, x24, x25, x26, x27, x28, x29, x30, x31, x32, x33, x34, x35, x36, x37, x38, x39, x40, x41, x42, x43, x44, x45, x46, x47, x48], []⟩ w := by
  have HEND := Lib.hid hend
  clear hend
  conv => arg 2; whnf
  conv => arg 4; dsimp only
  refine wp_region_goods [some 35, some 36, some 37, some 38, some 39, some 40, some 41, some 42, some 43, some 44, some 45, some 46, some 47, some 48, some 6] [isW (.int .i64 (i : Int)), isW (.int .i64 (i : Int)), isW (.int .i64 (n : Int)), isW (.bool false), isW (.bool false), isW (undef), isW (undef), isW (undef), isW (undef), isW (undef), isW (undef), isW (undef), isW (undef), isW (.bool false), isW (.int .i64 (i : Int))] (fun _ w' => RowKit.Below w.heap.size w w') [] (by kernel_rfl) (by kernel_rfl) (by kernel_rfl) rfl (by decide) rfl rfl ((Below.refl _ _).drew) ⟨lastsW_is _, lastsW_is _, lastsW_is _, lastsW_is _, lastsW_is _, lastsW_is _, lastsW_is _, lastsW_is _, lastsW_is _, lastsW_is _, lastsW_is _, lastsW_is _, lastsW_is _, lastsW_is _, lastsW_is _, trivial⟩ ⟨?_, ?_, ?_, ?_, ?_, ?_, ?_, ?_, ?_, ?_, ?_, ?_, ?_, ?_, ?_, ?_⟩
  · intro L a wy Q' hL hi H F hK
    try dsimp only at hi
    have h9 : a.tmps[9]? = some (.int .i64 (i : Int)) := F 9 rfl
    have HI := Lib.hid hi
    clear H F hi hL
    go_wp2_with fail
    exact hK _ _ (Below.refl _ _) HI.out rfl
  · intro L a wy Q' hL hi H F hK
    try dsimp only at hi
    have h9 : a.tmps[9]? = some (.int .i64 (i : Int)) := F 9 rfl
    have HI := Lib.hid hi
    clear H F hi hL
    go_wp2_with fail
    exact hK _ _ (Below.refl _ _) HI.out rfl
  · intro L a wy Q' hL hi H F hK
    try dsimp only at hi
    have h8 : a.tmps[8]? = some (.int .i64 (n : Int)) := F 8 rfl
    have HI := Lib.hid hi
    clear H F hi hL
    go_wp2_with fail
    exact hK _ _ (Below.refl _ _) HI.out rfl
  · intro L a wy Q' hL hi H F hK
    try dsimp only at hi
    obtain ⟨_, h36, rfl⟩ := H 1 ⟨.data, by simp, rfl⟩ _ rfl
    replace h36 := h36 _ rfl
    obtain ⟨_, h37, rfl⟩ := H 2 ⟨.data, by simp, rfl⟩ _ rfl
    replace h37 := h37 _ rfl
    have HI := Lib.hid hi
    clear H F hi hL
    go_wp2_with fail
    exact hK _ _ (Below.refl _ _) HI.out rfl
  · intro L a wy Q' hL hi H F hK
    try dsimp only at hi
    obtain ⟨_, h38, rfl⟩ := H 3 ⟨.data, by simp, rfl⟩ _ rfl
    replace h38 := h38 _ rfl
    have HI := Lib.hid hi
    clear H F hi hL
    go_wp2_with fail
    exact hK _ _ (Below.refl _ _) HI.out rfl
  · intro L a wy Q' hL hi H F hK
    try dsimp only at hi
    obtain ⟨_, h39, rfl⟩ := H 4 ⟨.guard, by simp, rfl⟩ _ rfl
    replace h39 := h39 _ rfl
    have h2 : a.tmps[2]? = some (.func (.func 45) #[] #[]) := F 2 rfl
    have HI := Lib.hid hi
    clear H F hi hL
    refine wpList_skip (by simp [Region.wanted, yielded, h39]) ?_
    exact hK _ _ (Below.refl _ _) HI.out rfl
  · intro L a wy Q' hL hi H F hK
    try dsimp only at hi
    obtain ⟨_, h39, rfl⟩ := H 4 ⟨.guard, by simp, rfl⟩ _ rfl
    replace h39 := h39 _ rfl
    have h0 : a.tmps[0]? = some (.slice ad n c) := F 0 rfl
    have HI := Lib.hid hi
    clear H F hi hL
    refine wpList_skip (by simp [Region.wanted, yielded, h39]) ?_
    exact hK _ _ (Below.refl _ _) HI.out rfl
  · intro L a wy Q' hL hi H F hK
    try dsimp only at hi
    obtain ⟨_, h39, rfl⟩ := H 4 ⟨.guard, by simp, rfl⟩ _ rfl
    replace h39 := h39 _ rfl
    have h9 : a.tmps[9]? = some (.int .i64 (i : Int)) := F 9 rfl
    have HI := Lib.hid hi
    clear H F hi hL
    refine wpList_skip (by simp [Region.wanted, yielded, h39]) ?_
    exact hK _ _ (Below.refl _ _) HI.out rfl
  · intro L a wy Q' hL hi H F hK
    try dsimp only at hi
    obtain ⟨_, h41, rfl⟩ := H 6 ⟨.data, by simp, rfl⟩ _ rfl
    replace h41 := h41 _ rfl
    obtain ⟨_, h42, rfl⟩ := H 7 ⟨.data, by simp, rfl⟩ _ rfl
    replace h42 := h42 _ rfl
    obtain ⟨_, h39, rfl⟩ := H 4 ⟨.guard, by simp, rfl⟩ _ rfl
    replace h39 := h39 _ rfl
    have HI := Lib.hid hi
    clear H F hi hL
    refine wpList_skip (by simp [Region.wanted, yielded, h39]) ?_
    exact hK _ _ (Below.refl _ _) HI.out rfl
  · intro L a wy Q' hL hi H F hK
    try dsimp only at hi
    obtain ⟨_, h43, rfl⟩ := H 8 ⟨.data, by simp, rfl⟩ _ rfl
    replace h43 := h43 _ rfl
    obtain ⟨_, h39, rfl⟩ := H 4 ⟨.guard, by simp, rfl⟩ _ rfl
    replace h39 := h39 _ rfl
    have HI := Lib.hid hi
    clear H F hi hL
    refine wpList_skip (by simp [Region.wanted, yielded, h39]) ?_
    exact hK _ _ (Below.refl _ _) HI.out rfl
  · intro L a wy Q' hL hi H F hK
    try dsimp only at hi
    obtain ⟨_, h39, rfl⟩ := H 4 ⟨.guard, by simp, rfl⟩ _ rfl
    replace h39 := h39 _ rfl
    have h4 : a.tmps[4]? = some (.pointer (some ⟨kb, 0, none⟩)) := F 4 rfl
    have HI := Lib.hid hi
    clear H F hi hL
    refine wpList_skip (by simp [Region.wanted, yielded, h39]) ?_
    exact hK _ _ (Below.refl _ _) HI.out rfl
  · intro L a wy Q' hL hi H F hK
    try dsimp only at hi
    obtain ⟨_, h40, rfl⟩ := H 5 ⟨.data, by simp, rfl⟩ _ rfl
    replace h40 := h40 _ rfl
    obtain ⟨_, h44, rfl⟩ := H 9 ⟨.data, by simp, rfl⟩ _ rfl
    replace h44 := h44 _ rfl
    obtain ⟨_, h45, rfl⟩ := H 10 ⟨.data, by simp, rfl⟩ _ rfl
    replace h45 := h45 _ rfl
    obtain ⟨_, h39, rfl⟩ := H 4 ⟨.guard, by simp, rfl⟩ _ rfl
    replace h39 := h39 _ rfl
    have HI := Lib.hid hi
    clear H F hi hL
    refine wpList_skip (by simp [Region.wanted, yielded, h39]) ?_
    exact hK _ _ (Below.refl _ _) HI.out rfl
  · intro L a wy Q' hL hi H F hK
    try dsimp only at hi
    obtain ⟨_, h46, rfl⟩ := H 11 ⟨.data, by simp, rfl⟩ _ rfl
    replace h46 := h46 _ rfl
    obtain ⟨_, h39, rfl⟩ := H 4 ⟨.guard, by simp, rfl⟩ _ rfl
    replace h39 := h39 _ rfl
    have HI := Lib.hid hi
    clear H F hi hL
    refine wpList_skip (by simp [Region.wanted, yielded, h39]) ?_
    exact hK _ _ (Below.refl _ _) HI.out rfl
  · intro L a wy Q' hL hi H F hK
    try dsimp only at hi
    obtain ⟨_, h39, rfl⟩ := H 4 ⟨.data, by simp, rfl⟩ _ rfl
    replace h39 := h39 _ rfl
    obtain ⟨_, h47, rfl⟩ := H 12 ⟨.data, by simp, rfl⟩ _ rfl
    replace h47 := h47 _ rfl
    have HI := Lib.hid hi
    clear H F hi hL
    go_wp2_with fail
    exact hK _ _ (Below.refl _ _) HI.out rfl
  · intro L a wy Q' hL hi H F hK
    try dsimp only at hi
    obtain ⟨_, h35, rfl⟩ := H 0 ⟨.data, by simp, rfl⟩ _ rfl
    replace h35 := h35 _ rfl
    have HI := Lib.hid hi
    clear H F hi hL
    go_wp2_with fail
    exact hK _ _ (Below.refl _ _) HI.out rfl
  · intro a wy L hl hi hL Q' hK
    try dsimp only at hi
    have HB := Lib.hid hi
    clear hi hL
    obtain ⟨_, rfl, _, rfl, _, rfl, _, rfl, _, rfl, _, rfl, _, rfl, _, rfl, _, rfl, _, rfl, _, rfl, _, rfl, _, rfl, _, rfl, _, rfl, rfl⟩ := hl
    simp only [List.setIfInBounds_toArray, List.set_cons_zero, List.set_cons_succ]
    go_wp2_with fail
    exact HEND.out _ _ _ _ _ _ _ _ _ _ _ _ _ _ _ HB.out
theorem key_len (k : Key4) : k.cells.length = 4 := rfl
set_option maxRecDepth 100000 in
set_option maxHeartbeats 4000000 in
theorem search_any (w : World) (v : Value) (ks : List Key4) (k : Key4) (h : SliceAt w v 4 ks.length (ks.flatMap Key4.cells)) (hlen : ks.length ≤ 1000000)
    (hdown : ∀ (p q : Nat) (y z : Key4), p ≤ q → ks[p]? = some y → ks[q]? = some z → cmpK z k < 0 → cmpK y k < 0) :
    Calls Try.prog 44 #[v, .agg #[.int .i64 k.src, .int .i64 k.tgt, .int .i64 k.cls, .int .i64 k.cond], .func (.func 45) #[] #[]] w fun e w' => ∃ (p : Nat) (f : Value), e = .returned (.tuple #[.int .i64 (p : Int), f]) ∧ p ≤ ks.length ∧ (∀ q y, q < p → ks[q]? = some y → cmpK y k < 0) ∧ (∀ q y, p ≤ q → ks[q]? = some y → ¬ cmpK y k < 0) ∧ (k ∉ ks → f = .bool false) ∧ RowKit.Below w.heap.size w w' := by
  obtain ⟨n, hn⟩ : ∃ n, n = ks.length := ⟨_, rfl⟩
  obtain ⟨a, c, rfl, hc, hmx, hcell⟩ := h.form (by decide)
  have HL := Lib.hid hn
  have HC := Lib.hid (And.intro hcell hc)
  have HDW := Lib.hid hdown
  rw [← hn] at hlen hmx hc ⊢
  obtain ⟨wo, hwo⟩ : ∃ wo, wo = w.alloc (.cells #[.int .i64 k.src, .int .i64 k.tgt, .int .i64 k.cls, .int .i64 k.cond] 60) := ⟨_, rfl⟩
  have HWO := Lib.hid (show RowKit.Below w.heap.size w wo by rw [hwo]; exact (Below.refl _ w).alloc (Nat.le_refl _) _)
  have HK0 := Lib.hid (show Whole wo w.heap.size 60 #[.int .i64 k.src, .int .i64 k.tgt, .int .i64 k.cls, .int .i64 k.cond] by rw [hwo]; exact Whole.new w 60 _)
  clear hn hcell h hdown
  go_enter Try.func44, Try.ntmps44
  go_upto_region 1 with fail
  rw [← hwo]
  clear hwo
  go_wp2_with fail
  go_loopw [9, 10] (fun u9 u10 wr => ∃ i j : Nat, i ≤ j ∧ j ≤ n ∧ u9 = .int .i64 i ∧ u10 = .int .i64 j ∧ Hid (∀ q y, q < i → ks[q]? = some y → cmpK y k < 0) ∧ Hid (∀ q y, j ≤ q → ks[q]? = some y → ¬ cmpK y k < 0) ∧ Whole wr w.heap.size 60 #[.int .i64 k.src, .int .i64 k.tgt, .int .i64 k.cls, .int .i64 k.cond] ∧ RowKit.Below w.heap.size w wr) (fun u9 u10 _ => (intOf u10).toNat - (intOf u9).toNat)
  case atStart => exact ⟨0, n, Nat.zero_le _, Nat.le_refl _, rfl, rfl, (fun q y hq => by omega), (fun q y hq hy => by have := (List.getElem?_eq_some_iff.1 hy).1; have := HL.out; omega), HK0.out, HWO.out⟩
  case round =>
    obtain ⟨i, j, hij, hjn, rfl, rfl, HLo, HHi, hK, hB⟩ := hrel
    have HKr := Lib.hid hK
    have HBr := Lib.hid hB
    clear hK hB
    by_cases hlt : i < j
    · obtain ⟨m, hm⟩ : ∃ m, m = (i + j) / 2 := ⟨_, rfl⟩
      have hmn : m < n := by omega
      have hmj : m < j := by omega
      have him : i ≤ m := by omega
      have hmk : m < ks.length := by rw [← HL.out]; exact hmn
      obtain ⟨y, hy⟩ : ∃ y, ks[m]? = some y := ⟨_, List.getElem?_eq_getElem hmk⟩
      have HYI := Lib.hid hy
      obtain ⟨b, off, rfl, hcl⟩ := HC.out.1 m hmk
      have HE := Lib.hid (show ∀ z u, y.cells[z]? = some u → wr.cell? ⟨b, off + m * 4 + z, none⟩ = some u from fun z u hu => cell_later HBr.out (hcl z u (by
        have hz : z < 4 := (List.getElem?_eq_some_iff.1 hu).1
        rw [flat_at key_len hy z hz]; exact hu)))
      have hmid : ((i : Int) + (j : Int)) / 2 = (m : Int) := by omega
      clear hy hcl hmk
      have HM := Lib.hid hm
      clear hm
      go_upto_region 5 with fail
      refine bs5 wr w.heap.size b off m n c k y (cmpK y k) _ _ _ _ _ _ _ _ _ _ _ _ _ _ _ _ _ _ _ _ _ _ _ _ _ _ _ _ _ _ _ _ _ _ _ _ _ _ _ _ _ _ _ _ _ hmn HKr HE (Lib.hid fun W => compareK_any W y k) ?_
      intro v24 v25 v26 v27 v28 v29 v30 w4 hb4
      have HB4 := Lib.hid (HBr.out.trans (hb4.mono HBr.out.size))
      have HK4 := Lib.hid (Whole.under hb4 HKr.out HKr.out.lt)
      clear hb4 HKr HBr HE
      by_cases hz : cmpK y k < 0
      · have hd : decide (cmpK y k < 0) = true := by simp [hz]
        have HZ := Lib.hid hz
        simp only [hd]
        clear hz hd hmid
        go_wp2_with fail
        go_roundw
        case rel => exact ⟨m + 1, j, by omega, hjn, by go_num, rfl, (fun q z hq hz => HDW.out q m z y (by omega) hz HYI.out HZ.out), HHi.out, HK4.out, HB4.out⟩
        case measure => simp [intOf]; omega
      · have hd : decide (cmpK y k < 0) = false := by simp [hz]
        have HZ := Lib.hid hz
        simp only [hd]
        clear hz hd hmid
        go_wp2_with fail
        go_roundw
        case rel => exact ⟨i, m, by omega, by omega, rfl, rfl, HLo.out, (fun q z hq hz hl => HZ.out (HDW.out m q y z hq HYI.out hz hl)), HK4.out, HB4.out⟩
        case measure => simp [intOf]; omega
    · obtain rfl : i = j := by omega
      by_cases hin : i < n
      · have hmk : i < ks.length := by rw [← HL.out]; exact hin
        obtain ⟨y, hy⟩ : ∃ y, ks[i]? = some y := ⟨_, List.getElem?_eq_getElem hmk⟩
        obtain ⟨b, off, rfl, hcl⟩ := HC.out.1 i hmk
        have HE := Lib.hid (show ∀ z u, y.cells[z]? = some u → wr.cell? ⟨b, off + i * 4 + z, none⟩ = some u from fun z u hu => cell_later HBr.out (hcl z u (by
          have hz : z < 4 := (List.getElem?_eq_some_iff.1 hu).1
          rw [flat_at key_len hy z hz]; exact hu)))
        have HNO := Lib.hid (show k ∉ ks → (Value.bool (cmpK y k == 0)) = .bool false from fun hno => by
          have hne : ¬ cmpK y k = 0 := fun e => hno (by rw [← (cmpK_zero y k).1 e]; exact List.mem_of_getElem? hy)
          simp [hne])
        clear hy hcl hmk
        go_upto_region 8 with fail
        refine bs8_t wr w.heap.size b off i n c k y (cmpK y k) _ _ _ _ _ _ _ _ _ _ _ _ _ _ _ _ _ _ _ _ _ _ _ _ _ _ _ _ _ _ _ _ _ _ _ _ _ _ _ _ _ _ _ _ hin HKr HE (Lib.hid fun W => compareK_any W y k) ?_
        intro v35 v36 v37 v38 v39 v40 v41 v42 v43 v44 v45 v46 v47 v48 w4 hb4
        have HB4 := Lib.hid (HBr.out.trans (hb4.mono HBr.out.size))
        clear hb4
        go_wp2_with fail
        refine bodyPost_ret (v := .tuple #[.int .i64 (i : Int), .bool (cmpK y k == 0)]) ?_ rfl ⟨i, _, rfl, hjn, HLo.out, HHi.out, HNO.out, HB4.out⟩
        simp [results, Try.results44, go_sem]
      · go_upto_region 8 with fail
        refine bs8_f wr w.heap.size i n c a _ _ _ _ _ _ _ _ _ _ _ _ _ _ _ _ _ _ _ _ _ _ _ _ _ _ _ _ _ _ _ _ _ _ _ _ _ _ _ _ _ _ _ _ hin ?_
        intro v35 v36 v37 v38 v39 v40 v41 v42 v43 v44 v45 v46 v47 v48 w4 hb4
        have HB4 := Lib.hid (HBr.out.trans (hb4.mono HBr.out.size))
        clear hb4
        go_wp2_with fail
        refine bodyPost_ret (v := .tuple #[.int .i64 (i : Int), .bool false]) ?_ rfl ⟨i, _, rfl, hjn, HLo.out, HHi.out, fun _ => rfl, HB4.out⟩
        simp [results, Try.results44, go_sem]
end Go.Proofs.Ytlkkdpoliafjbaa
