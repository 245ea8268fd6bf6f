import Derived.Test.YtlkkdpoliafjbaaP4
/-
  Tables: New, Activate, Find.
-/
namespace Go.Proofs.Ytlkkdpoliafjbaa
open Go Go.WideMaps Go.RowKit

set_option maxRecDepth 100000 in
set_option maxHeartbeats 4000000 in
theorem new5 (w : World) (tb eb sa : Nat) (y : AEntry) (Post : World → World → Prop) (x0 x1 x2 x4 x6 x7 x8 x9 x10 x11 x12 x13 x14 x15 x16 x17 x18 x19 x20 x21 x22 x23 x24 x25 x26 x27 x28 x29 x30 x31 x32 x33 x34 x35 x36 x37 x38 x39 : Value) (HT : Hid (Whole w tb 51 #[.pointer (some ⟨sa, 0, none⟩), .pointer none, .slice none 0 0])) (HE : Hid (Whole w eb 37 #[.int .i64 y.src, .int .i64 y.tgt, .int .i64 y.cls, .int .i64 y.cond, .int .u32 y.allow, .int .u32 y.audit, .int .u32 y.dont])) (HC : Hid (∀ W, RowKit.Below w.heap.size w W → Calls Try.prog 26 #[.pointer (some ⟨sa, 0, none⟩), .agg #[.int .i64 y.src, .int .i64 y.tgt, .int .i64 y.cls, .int .i64 y.cond], .agg #[.int .u32 y.allow, .int .u32 y.audit, .int .u32 y.dont]] W fun e w' => e = .returned (.tuple #[]) ∧ Post W w'))
    {Q' : Exit → Act → World → Prop} (hend : ∀ (v15 v16 v17 v18 v19 v20 v21 v22 v23 v24 v25 v26 v27 v28 v29 v30 v31 v32 v33 v34 v35 : Value) (W w' : World), (RowKit.Below w.heap.size w W ∧ Post W w') → Q' .normal ⟨#[x0, x1, x2, .pointer (some ⟨tb, 0, none⟩), x4, .pointer (some ⟨eb, 0, none⟩), x6, x7, x8, x9, x10, x11, x12, x13, x14, v15, v16, v17, v18, v19, v20, v21, v22, v23, v24, v25, v26, v27, v28, v29, v30, v31, v32, v33, v34, v35, x36, x37, x38, x39], []⟩ w') :
    Code.wp Try.prog (findRegion7 5 ((Try.f10.body).getD .skip)) Q' ⟨#[x0, x1, x2, .pointer (some ⟨tb, 0, none⟩), x4, .pointer (some ⟨eb, 0, none⟩), x6, x7, x8, x9, x10, x11, x12, x13, x14, x15, x16, x17, x18, x19, x20, x21, x22, x23, x24, x25, x26, x27, x28, x29, x30, x31, x32, x33, x34, x35, x36, x37, x38, x39], []⟩ w := by
  have HEND := Lib.hid hend
  clear hend
  conv => arg 2; whnf
  conv => arg 4; dsimp only
  refine wp_region_goods [some 15, some 16, some 17, some 18, some 19, some 20, some 21, some 22, some 23, some 24, some 25, some 26, some 27, some 28, some 29, some 30, some 31, some 32, some 33, some 34] [isW (.pointer (some ⟨tb, 0, none⟩)), isW (.pointer (some ⟨tb, 0, none⟩)), isW (.pointer (some ⟨tb, 0, none⟩)), isW (.pointer (some ⟨sa, 0, none⟩)), isW (.pointer (some ⟨eb, 0, none⟩)), isW (.int .i64 y.src), isW (.pointer (some ⟨eb, 1, none⟩)), isW (.int .i64 y.tgt), isW (.pointer (some ⟨eb, 2, none⟩)), isW (.int .i64 y.cls), isW (.pointer (some ⟨eb, 3, none⟩)), isW (.int .i64 y.cond), isW (.agg #[.int .i64 y.src, .int .i64 y.tgt, .int .i64 y.cls, .int .i64 y.cond]), isW (.pointer (some ⟨eb, 4, none⟩)), isW (.int .u32 y.allow), isW (.pointer (some ⟨eb, 5, none⟩)), isW (.int .u32 y.audit), isW (.pointer (some ⟨eb, 6, none⟩)), isW (.int .u32 y.dont), isW (.agg #[.int .u32 y.allow, .int .u32 y.audit, .int .u32 y.dont])] (fun _ w' => RowKit.Below w.heap.size w w') [] (by kernel_rfl) (by kernel_rfl) (by kernel_rfl) rfl (by decide) rfl rfl ((Below.refl _ _).drew) ⟨lastsW_is _, lastsW_is _, lastsW_is _, lastsW_is _, lastsW_is _, lastsW_is _, lastsW_is _, lastsW_is _, lastsW_is _, lastsW_is _, lastsW_is _, lastsW_is _, lastsW_is _, lastsW_is _, lastsW_is _, lastsW_is _, lastsW_is _, lastsW_is _, lastsW_is _, lastsW_is _, trivial⟩ ⟨?_, ?_, ?_, ?_, ?_, ?_, ?_, ?_, ?_, ?_, ?_, ?_, ?_, ?_, ?_, ?_, ?_, ?_, ?_, ?_, ?_⟩
  · intro L a wy Q' hL hi H F hK
    try dsimp only at hi
    have h3 : a.tmps[3]? = some (.pointer (some ⟨tb, 0, none⟩)) := F 3 rfl
    have HI := Lib.hid hi
    clear H F hi hL
    go_wp2_with fail
    exact hK _ _ (Below.refl _ _) HI.out rfl
  · intro L a wy Q' hL hi H F hK
    try dsimp only at hi
    obtain ⟨_, h15, rfl⟩ := H 0 ⟨.data, by simp, rfl⟩ _ rfl
    replace h15 := h15 _ rfl
    have HI := Lib.hid hi
    clear H F hi hL
    go_wp2_with fail
    exact hK _ _ (Below.refl _ _) HI.out rfl
  · intro L a wy Q' hL hi H F hK
    try dsimp only at hi
    obtain ⟨_, h16, rfl⟩ := H 1 ⟨.data, by simp, rfl⟩ _ rfl
    replace h16 := h16 _ rfl
    have HI := Lib.hid hi
    clear H F hi hL
    go_wp2_with fail
    exact hK _ _ (Below.refl _ _) HI.out rfl
  · intro L a wy Q' hL hi H F hK
    try dsimp only at hi
    obtain ⟨_, h17, rfl⟩ := H 2 ⟨.data, by simp, rfl⟩ _ rfl
    replace h17 := h17 _ rfl
    have HI := Lib.hid hi
    clear H F hi hL
    have kq0 : wy.cell? ⟨tb, 0, none⟩ = some (.pointer (some ⟨sa, 0, none⟩)) := (Whole.under HI.out HT.out (Whole.lt HT.out)).cell 0
    go_wp2_with fail
    exact hK _ _ (Below.refl _ _) HI.out rfl
  · intro L a wy Q' hL hi H F hK
    try dsimp only at hi
    have h5 : a.tmps[5]? = some (.pointer (some ⟨eb, 0, none⟩)) := F 5 rfl
    have HI := Lib.hid hi
    clear H F hi hL
    go_wp2_with fail
    exact hK _ _ (Below.refl _ _) HI.out rfl
  · intro L a wy Q' hL hi H F hK
    try dsimp only at hi
    obtain ⟨_, h19, rfl⟩ := H 4 ⟨.data, by simp, rfl⟩ _ rfl
    replace h19 := h19 _ rfl
    have HI := Lib.hid hi
    clear H F hi hL
    have kq0 : wy.cell? ⟨eb, 0, none⟩ = some (.int .i64 y.src) := (Whole.under HI.out HE.out (Whole.lt HE.out)).cell 0
    go_wp2_with fail
    exact hK _ _ (Below.refl _ _) HI.out rfl
  · intro L a wy Q' hL hi H F hK
    try dsimp only at hi
    have h5 : a.tmps[5]? = some (.pointer (some ⟨eb, 0, none⟩)) := F 5 rfl
    have HI := Lib.hid hi
    clear H F hi hL
    go_wp2_with fail
    exact hK _ _ (Below.refl _ _) HI.out rfl
  · intro L a wy Q' hL hi H F hK
    try dsimp only at hi
    obtain ⟨_, h21, rfl⟩ := H 6 ⟨.data, by simp, rfl⟩ _ rfl
    replace h21 := h21 _ rfl
    have HI := Lib.hid hi
    clear H F hi hL
    have kq0 : wy.cell? ⟨eb, 1, none⟩ = some (.int .i64 y.tgt) := (Whole.under HI.out HE.out (Whole.lt HE.out)).cell 1
    go_wp2_with fail
    exact hK _ _ (Below.refl _ _) HI.out rfl
  · intro L a wy Q' hL hi H F hK
    try dsimp only at hi
    have h5 : a.tmps[5]? = some (.pointer (some ⟨eb, 0, none⟩)) := F 5 rfl
    have HI := Lib.hid hi
    clear H F hi hL
    go_wp2_with fail
    exact hK _ _ (Below.refl _ _) HI.out rfl
  · intro L a wy Q' hL hi H F hK
    try dsimp only at hi
    obtain ⟨_, h23, rfl⟩ := H 8 ⟨.data, by simp, rfl⟩ _ rfl
    replace h23 := h23 _ rfl
    have HI := Lib.hid hi
    clear H F hi hL
    have kq0 : wy.cell? ⟨eb, 2, none⟩ = some (.int .i64 y.cls) := (Whole.under HI.out HE.out (Whole.lt HE.out)).cell 2
    go_wp2_with fail
    exact hK _ _ (Below.refl _ _) HI.out rfl
  · intro L a wy Q' hL hi H F hK
    try dsimp only at hi
    have h5 : a.tmps[5]? = some (.pointer (some ⟨eb, 0, none⟩)) := F 5 rfl
    have HI := Lib.hid hi
    clear H F hi hL
    go_wp2_with fail
    exact hK _ _ (Below.refl _ _) HI.out rfl
  · intro L a wy Q' hL hi H F hK
    try dsimp only at hi
    obtain ⟨_, h25, rfl⟩ := H 10 ⟨.data, by simp, rfl⟩ _ rfl
    replace h25 := h25 _ rfl
    have HI := Lib.hid hi
    clear H F hi hL
    have kq0 : wy.cell? ⟨eb, 3, none⟩ = some (.int .i64 y.cond) := (Whole.under HI.out HE.out (Whole.lt HE.out)).cell 3
    go_wp2_with fail
    exact hK _ _ (Below.refl _ _) HI.out rfl
  · intro L a wy Q' hL hi H F hK
    try dsimp only at hi
    obtain ⟨_, h20, rfl⟩ := H 5 ⟨.data, by simp, rfl⟩ _ rfl
    replace h20 := h20 _ rfl
    obtain ⟨_, h22, rfl⟩ := H 7 ⟨.data, by simp, rfl⟩ _ rfl
    replace h22 := h22 _ rfl
    obtain ⟨_, h24, rfl⟩ := H 9 ⟨.data, by simp, rfl⟩ _ rfl
    replace h24 := h24 _ rfl
    obtain ⟨_, h26, rfl⟩ := H 11 ⟨.data, by simp, rfl⟩ _ rfl
    replace h26 := h26 _ rfl
    have HI := Lib.hid hi
    clear H F hi hL
    go_wp2_with fail
    exact hK _ _ (Below.refl _ _) HI.out rfl
  · intro L a wy Q' hL hi H F hK
    try dsimp only at hi
    have h5 : a.tmps[5]? = some (.pointer (some ⟨eb, 0, none⟩)) := F 5 rfl
    have HI := Lib.hid hi
    clear H F hi hL
    go_wp2_with fail
    exact hK _ _ (Below.refl _ _) HI.out rfl
  · intro L a wy Q' hL hi H F hK
    try dsimp only at hi
    obtain ⟨_, h28, rfl⟩ := H 13 ⟨.data, by simp, rfl⟩ _ rfl
    replace h28 := h28 _ rfl
    have HI := Lib.hid hi
    clear H F hi hL
    have kq0 : wy.cell? ⟨eb, 4, none⟩ = some (.int .u32 y.allow) := (Whole.under HI.out HE.out (Whole.lt HE.out)).cell 4
    go_wp2_with fail
    exact hK _ _ (Below.refl _ _) HI.out rfl
  · intro L a wy Q' hL hi H F hK
    try dsimp only at hi
    have h5 : a.tmps[5]? = some (.pointer (some ⟨eb, 0, none⟩)) := F 5 rfl
    have HI := Lib.hid hi
    clear H F hi hL
    go_wp2_with fail
    exact hK _ _ (Below.refl _ _) HI.out rfl
  · intro L a wy Q' hL hi H F hK
    try dsimp only at hi
    obtain ⟨_, h30, rfl⟩ := H 15 ⟨.data, by simp, rfl⟩ _ rfl
    replace h30 := h30 _ rfl
    have HI := Lib.hid hi
    clear H F hi hL
    have kq0 : wy.cell? ⟨eb, 5, none⟩ = some (.int .u32 y.audit) := (Whole.under HI.out HE.out (Whole.lt HE.out)).cell 5
    go_wp2_with fail
    exact hK _ _ (Below.refl _ _) HI.out rfl
  · intro L a wy Q' hL hi H F hK
    try dsimp only at hi
    have h5 : a.tmps[5]? = some (.pointer (some ⟨eb, 0, none⟩)) := F 5 rfl
    have HI := Lib.hid hi
    clear H F hi hL
    go_wp2_with fail
    exact hK _ _ (Below.refl _ _) HI.out rfl
  · intro L a wy Q' hL hi H F hK
    try dsimp only at hi
    obtain ⟨_, h32, rfl⟩ := H 17 ⟨.data, by simp, rfl⟩ _ rfl
    replace h32 := h32 _ rfl
    have HI := Lib.hid hi
    clear H F hi hL
    have kq0 : wy.cell? ⟨eb, 6, none⟩ = some (.int .u32 y.dont) := (Whole.under HI.out HE.out (Whole.lt HE.out)).cell 6
    go_wp2_with fail
    exact hK _ _ (Below.refl _ _) HI.out rfl
  · intro L a wy Q' hL hi H F hK
    try dsimp only at hi
    obtain ⟨_, h29, rfl⟩ := H 14 ⟨.data, by simp, rfl⟩ _ rfl
    replace h29 := h29 _ rfl
    obtain ⟨_, h31, rfl⟩ := H 16 ⟨.data, by simp, rfl⟩ _ rfl
    replace h31 := h31 _ rfl
    obtain ⟨_, h33, rfl⟩ := H 18 ⟨.data, by simp, rfl⟩ _ rfl
    replace h33 := h33 _ rfl
    have HI := Lib.hid hi
    clear H F hi hL
    go_wp2_with fail
    exact hK _ _ (Below.refl _ _) HI.out rfl
  · intro a wy L hl hi hL Q' hK
    try dsimp only at hi
    have HB := Lib.hid hi
    clear hi hL
    obtain ⟨_, rfl, _, rfl, _, rfl, _, rfl, _, rfl, _, rfl, _, rfl, _, rfl, _, rfl, _, rfl, _, rfl, _, rfl, _, rfl, _, rfl, _, rfl, _, rfl, _, rfl, _, rfl, _, rfl, _, rfl, rfl⟩ := hl
    simp only [List.setIfInBounds_toArray, List.set_cons_zero, List.set_cons_succ]
    go_wp2_with (go_at_call 26; go_must (refine (HC.out wy HB.out).mono ?_; rintro e w9 ⟨rfl, h9⟩; have HP9 := Lib.hid h9; clear h9))
    exact HEND.out _ _ _ _ _ _ _ _ _ _ _ _ _ _ _ _ _ _ _ _ _ wy w9 ⟨HB.out, HP9.out⟩
set_option maxRecDepth 100000 in
set_option maxHeartbeats 4000000 in
theorem find4 (w : World) (g : Nat) (fa fb fc : Int) (x0 x1 x2 x3 x4 x5 x6 x7 x8 x9 x10 x12 x13 x14 x15 x16 x17 x18 x19 x20 x21 x22 x23 x24 x25 x26 x27 x28 x29 x30 x31 x32 : Value) (HG : Hid (Whole w g 62 #[.int .u32 fa, .int .u32 fb, .int .u32 fc]))
    {Q' : Exit → Act → World → Prop} (hend : ∀ (v27 v28 v29 v30 v31 v32 : Value) (w' : World), RowKit.Below w.heap.size w w' → Q' .normal ⟨#[x0, x1, x2, x3, x4, x5, x6, x7, .int .u32 fa, .int .u32 fb, .int .u32 fc, .pointer (some ⟨g, 0, none⟩), x12, x13, x14, x15, x16, x17, x18, x19, x20, x21, x22, x23, x24, x25, x26, v27, v28, v29, v30, v31, v32], []⟩ w') :
    Code.wp Try.prog (findRegion7 4 ((Try.f19.body).getD .skip)) Q' ⟨#[x0, x1, x2, x3, x4, x5, x6, x7, x8, x9, x10, .pointer (some ⟨g, 0, none⟩), x12, x13, x14, x15, x16, x17, x18, x19, x20, x21, x22, x23, x24, x25, x26, x27, x28, x29, x30, x31, x32], []⟩ w := by
  have HEND := Lib.hid hend
  clear hend
  conv => arg 2; whnf
  conv => arg 4; dsimp only
  refine wp_region_goods [some 27, some 28, some 29, some 30, some 31, some 32, some 8, some 9] [isW (.pointer (some ⟨g, 0, none⟩)), isW (.int .u32 fa), isW (.pointer (some ⟨g, 1, none⟩)), isW (.int .u32 fb), isW (.pointer (some ⟨g, 2, none⟩)), isW (.int .u32 fc), isW (.int .u32 fa), isW (.int .u32 fb)] (fun _ w' => RowKit.Below w.heap.size w w') [] (by kernel_rfl) (by kernel_rfl) (by kernel_rfl) rfl (by decide) rfl rfl ((Below.refl _ _).drew) ⟨lastsW_is _, lastsW_is _, lastsW_is _, lastsW_is _, lastsW_is _, lastsW_is _, lastsW_is _, lastsW_is _, trivial⟩ ⟨?_, ?_, ?_, ?_, ?_, ?_, ?_, ?_, ?_⟩
  · intro L a wy Q' hL hi H F hK
    try dsimp only at hi
    have h11 : a.tmps[11]? = some (.pointer (some ⟨g, 0, none⟩)) := F 11 rfl
    have HI := Lib.hid hi
    clear H F hi hL
    go_wp2_with fail
    exact hK _ _ (Below.refl _ _) HI.out rfl
  · intro L a wy Q' hL hi H F hK
    try dsimp only at hi
    obtain ⟨_, h27, rfl⟩ := H 0 ⟨.data, by simp, rfl⟩ _ rfl
    replace h27 := h27 _ rfl
    have HI := Lib.hid hi
    clear H F hi hL
    have kq0 : wy.cell? ⟨g, 0, none⟩ = some (.int .u32 fa) := (Whole.under HI.out HG.out (Whole.lt HG.out)).cell 0
    go_wp2_with fail
    exact hK _ _ (Below.refl _ _) HI.out rfl
  · intro L a wy Q' hL hi H F hK
    try dsimp only at hi
    have h11 : a.tmps[11]? = some (.pointer (some ⟨g, 0, none⟩)) := F 11 rfl
    have HI := Lib.hid hi
    clear H F hi hL
    go_wp2_with fail
    exact hK _ _ (Below.refl _ _) HI.out rfl
  · intro L a wy Q' hL hi H F hK
    try dsimp only at hi
    obtain ⟨_, h29, rfl⟩ := H 2 ⟨.data, by simp, rfl⟩ _ rfl
    replace h29 := h29 _ rfl
    have HI := Lib.hid hi
    clear H F hi hL
    have kq0 : wy.cell? ⟨g, 1, none⟩ = some (.int .u32 fb) := (Whole.under HI.out HG.out (Whole.lt HG.out)).cell 1
    go_wp2_with fail
    exact hK _ _ (Below.refl _ _) HI.out rfl
  · intro L a wy Q' hL hi H F hK
    try dsimp only at hi
    have h11 : a.tmps[11]? = some (.pointer (some ⟨g, 0, none⟩)) := F 11 rfl
    have HI := Lib.hid hi
    clear H F hi hL
    go_wp2_with fail
    exact hK _ _ (Below.refl _ _) HI.out rfl
  · intro L a wy Q' hL hi H F hK
    try dsimp only at hi
    obtain ⟨_, h31, rfl⟩ := H 4 ⟨.data, by simp, rfl⟩ _ rfl
    replace h31 := h31 _ rfl
    have HI := Lib.hid hi
    clear H F hi hL
    have kq0 : wy.cell? ⟨g, 2, none⟩ = some (.int .u32 fc) := (Whole.under HI.out HG.out (Whole.lt HG.out)).cell 2
    go_wp2_with fail
    exact hK _ _ (Below.refl _ _) HI.out rfl
  · intro L a wy Q' hL hi H F hK
    try dsimp only at hi
    obtain ⟨_, h28, rfl⟩ := H 1 ⟨.data, by simp, rfl⟩ _ rfl
    replace h28 := h28 _ rfl
    have HI := Lib.hid hi
    clear H F hi hL
    go_wp2_with fail
    exact hK _ _ (Below.refl _ _) HI.out rfl
  · intro L a wy Q' hL hi H F hK
    try dsimp only at hi
    obtain ⟨_, h30, rfl⟩ := H 3 ⟨.data, by simp, rfl⟩ _ rfl
    replace h30 := h30 _ rfl
    have HI := Lib.hid hi
    clear H F hi hL
    go_wp2_with fail
    exact hK _ _ (Below.refl _ _) HI.out rfl
  · intro a wy L hl hi hL Q' hK
    try dsimp only at hi
    have HB := Lib.hid hi
    clear hi hL
    obtain ⟨_, rfl, _, rfl, _, rfl, _, rfl, _, rfl, _, rfl, _, rfl, _, rfl, rfl⟩ := hl
    simp only [List.setIfInBounds_toArray, List.set_cons_zero, List.set_cons_succ]
    go_wp2_with fail
    exact HEND.out _ _ _ _ _ _ _ HB.out
set_option maxRecDepth 100000 in
set_option maxHeartbeats 4000000 in
theorem new_any (w : World) (v : Value) (l : List AEntry) (h : SliceAt w v 7 l.length (l.flatMap AEntry.cells)) (hok : ∀ x ∈ l, x.Ok) (hlen : l.length ≤ 100000) :
    Calls Try.prog 10 #[v] w fun e w' => ∃ tb, e = .returned (.pointer (some ⟨tb, 0, none⟩)) ∧ TabAt w' w.heap.size tb (joinL l) (seenL (joinL l) []) [] ∧ RowKit.Below w.heap.size w w' := by
  obtain ⟨n, hn⟩ : ∃ n, n = l.length := ⟨_, rfl⟩
  rw [← hn] at h
  obtain ⟨a, c, rfl, hac, hmx, hcell⟩ := h.form (by decide)
  have HN := Lib.hid hn
  have HC := Lib.hid hcell
  have HOK := Lib.hid hok
  rw [← hn] at hlen
  have HLEN := Lib.hid hlen
  clear hn hcell h hok
  go_enter Try.func10, Try.ntmps10
  go_upto_region 2 with (go_at_call 25; go_must (refine (fresh_any w).mono ?_; rintro e w1 ⟨sa, rfl, hs1, hb1⟩; have HS1 := Lib.hid hs1; have HB1 := Lib.hid hb1; clear hs1 hb1))
  obtain ⟨wt, hwt⟩ : ∃ wt, wt = w1.alloc (.cells #[.pointer (some ⟨sa, 0, none⟩), .pointer none, .slice none 0 0] 51) := ⟨_, rfl⟩
  rw [← hwt]
  have HBt := Lib.hid (show RowKit.Below w1.heap.size w1 wt by rw [hwt]; exact (Below.refl _ w1).alloc (Nat.le_refl _) _)
  have HTt := Lib.hid (show Whole wt w1.heap.size 51 #[.pointer (some ⟨sa, 0, none⟩), .pointer none, .slice none 0 0] by rw [hwt]; exact Whole.new w1 51 _)
  have HSt := Lib.hid (HS1.out.keep HBt.out)
  have HBw := Lib.hid (HB1.out.trans (HBt.out.mono HB1.out.size))
  obtain ⟨tb, htb⟩ : ∃ tb, tb = w1.heap.size := ⟨_, rfl⟩
  rw [← htb] at HTt ⊢
  have HTB := Lib.hid (show w.heap.size ≤ tb by rw [htb]; exact HB1.out.size)
  clear hwt HS1 HB1 HBt htb
  go_wp2_with fail
  go_loopw [11] (fun i wr => ∃ m : Nat, m ≤ n ∧ i = .int .i64 m ∧ Whole wr tb 51 #[.pointer (some ⟨sa, 0, none⟩), .pointer none, .slice none 0 0] ∧ StoreAt wr w.heap.size sa (joinL (l.take m)) ∧ RowKit.Below w.heap.size w wr) (fun i _ => n - (intOf i).toNat)
  case atStart => exact ⟨0, Nat.zero_le _, rfl, HTt.out, by simpa [joinL] using HSt.out, HBw.out⟩
  case round =>
    obtain ⟨m, hm, rfl, hTr, hSr, hBr⟩ := hrel
    have HTr := Lib.hid hTr
    have HSr := Lib.hid hSr
    have HBr := Lib.hid hBr
    clear hTr hSr hBr
    by_cases hlt : m < n
    · obtain ⟨y, hy⟩ : ∃ y, l[m]? = some y := ⟨_, List.getElem?_eq_getElem (by rw [← HN.out]; exact hlt)⟩
      obtain ⟨b, off, rfl, hcl⟩ := HC.out m hlt
      have hk0 : wr.cell? ⟨b, off + m * 7, none⟩ = some (.int .i64 y.src) := cell_later HBr.out (hcl 0 _ (by rw [flat_at entry_len hy 0 (by decide)]; rfl))
      have hk1 : wr.cell? ⟨b, off + m * 7 + 1, none⟩ = some (.int .i64 y.tgt) := cell_later HBr.out (hcl 1 _ (by rw [flat_at entry_len hy 1 (by decide)]; rfl))
      have hk2 : wr.cell? ⟨b, off + m * 7 + 2, none⟩ = some (.int .i64 y.cls) := cell_later HBr.out (hcl 2 _ (by rw [flat_at entry_len hy 2 (by decide)]; rfl))
      have hk3 : wr.cell? ⟨b, off + m * 7 + 3, none⟩ = some (.int .i64 y.cond) := cell_later HBr.out (hcl 3 _ (by rw [flat_at entry_len hy 3 (by decide)]; rfl))
      have hk4 : wr.cell? ⟨b, off + m * 7 + 4, none⟩ = some (.int .u32 y.allow) := cell_later HBr.out (hcl 4 _ (by rw [flat_at entry_len hy 4 (by decide)]; rfl))
      have hk5 : wr.cell? ⟨b, off + m * 7 + 5, none⟩ = some (.int .u32 y.audit) := cell_later HBr.out (hcl 5 _ (by rw [flat_at entry_len hy 5 (by decide)]; rfl))
      have hk6 : wr.cell? ⟨b, off + m * 7 + 6, none⟩ = some (.int .u32 y.dont) := cell_later HBr.out (hcl 6 _ (by rw [flat_at entry_len hy 6 (by decide)]; rfl))
      have HYO := Lib.hid (HOK.out y (List.mem_of_getElem? hy))
      have HTK := Lib.hid (show l.take (m + 1) = l.take m ++ [y] from take_snoc hy)
      clear hcl hy
      go_upto_region 5 with (refine wpList_store_blk rfl 37 _ _ rfl wr.heap.size 0 (.agg #[.int .i64 y.src, .int .i64 y.tgt, .int .i64 y.cls, .int .i64 y.cond, .int .u32 y.allow, .int .u32 y.audit, .int .u32 y.dont]) rfl rfl 37 _ (Whole.new wr 37 _) (by simp [Value.cells]) size37 rfl ?_; intro w3 S3 W3; rw [splice_all _ _ (by rfl)] at W3; have HS3 := Lib.hid S3; have HW3 := Lib.hid (show Whole w3 wr.heap.size 37 #[.int .i64 y.src, .int .i64 y.tgt, .int .i64 y.cls, .int .i64 y.cond, .int .u32 y.allow, .int .u32 y.audit, .int .u32 y.dont] from W3); clear S3 W3)
      clear hk0 hk1 hk2 hk3 hk4 hk5 hk6
      have HB3 := Lib.hid (show RowKit.Below wr.heap.size wr w3 from ((Below.refl _ wr).alloc (Nat.le_refl _) _).trans (HS3.out.below (Nat.le_refl _)))
      have HT3 := Lib.hid (Whole.under HB3.out HTr.out HTr.out.lt)
      have HBw3 := Lib.hid (HBr.out.trans (HB3.out.mono HBr.out.size))
      refine new5 w3 tb wr.heap.size sa y (fun W w' => StoreAt w' w.heap.size sa (joinL (l.take (m + 1))) ∧ Chg w.heap.size W w') _ _ _ _ _ _ _ _ _ _ _ _ _ _ _ _ _ _ _ _ _ _ _ _ _ _ _ _ _ _ _ _ _ _ _ _ _ _ HT3 HW3 (Lib.hid fun W hW => by
        have hst := (HSr.out.keep HB3.out).keep hW
        have hlen' : (joinL (l.take m)).length ≤ 100000 := by
          have h1 := joinL_length (l.take m)
          have h3 : (l.take m).length ≤ l.length := by rw [List.length_take]; omega
          have := HLEN.out
          have := HN.out
          omega
        refine (add_any W w.heap.size sa _ y.key y.vecs hst (Nat.le_trans HBw3.out.size hW.size) HYO.out.1 HYO.out.2 hlen').mono ?_
        rintro e w' ⟨h1, h2, h3⟩
        refine ⟨h1, ?_, h3⟩
        rw [HTK.out, joinL_snoc]
        exact h2) ?_
      intro v15 v16 v17 v18 v19 v20 v21 v22 v23 v24 v25 v26 v27 v28 v29 v30 v31 v32 v33 v34 v35 W w5 hf
      have HW5 := Lib.hid hf.1
      have HST5 := Lib.hid hf.2.1
      have HCH5 := Lib.hid hf.2.2
      clear hf
      go_wp2_with fail
      go_roundw
      case rel => exact ⟨m + 1, by omega, by go_num, HCH5.out.kept _ _ _ (Whole.under HW5.out HT3.out HT3.out.lt) (by decide) (by decide), HST5.out, (HBw3.out.trans (HW5.out.mono HBw3.out.size)).trans HCH5.out.blw⟩
      case measure => simp [intOf]; omega
    · obtain rfl : m = n := by omega
      have hfull : l.take m = l := List.take_of_length_le (by rw [HN.out]; exact Nat.le_refl _)
      rw [hfull] at HSr
      clear hfull
      have HSH := Lib.hid (show_any wr w.heap.size tb sa _ (.slice none 0 0) (joinL l) [] HTr.out HSr.out (World.ownsRow_nil _ _ _ _) (by have h1 := joinL_length l; have := HLEN.out; have := HN.out; omega) (by simp))
      go_wp2_with (go_at_call 27; go_must (refine HSH.out.mono ?_; rintro e w4 ⟨rfl, ss, h1, h2, h3⟩; have H1 := Lib.hid h1; have H2 := Lib.hid h2; have H3 := Lib.hid h3; clear h1 h2 h3))
      go_ret
      refine ⟨tb, ret_val rfl, ⟨⟨sa, ss, _, H1.out, HSr.out.grown H3.out HTr.out (by decide) (by decide), H2.out.low HBr.out.size, World.ownsRow_nil _ _ _ _⟩, HTB.out⟩, HBr.out.grown H3.out HBr.out.size (fun q hq => by cases hq; exact HTB.out)⟩
set_option maxRecDepth 100000 in
set_option maxHeartbeats 4000000 in
theorem activate_any (w : World) (base tb : Nat) (v : Value) (L S : List AEntry) (vals vals' : List Bool) (h : TabAt w base tb L S vals) (hv : SliceAt w v 1 vals'.length (vals'.map aBool)) (hlen : L.length ≤ 100000) (hbig : vals'.length ≤ 1000000) :
    Calls Try.prog 13 #[.pointer (some ⟨tb, 0, none⟩), v] w fun e w' => e = .returned (.tuple #[]) ∧ TabAt w' base tb L (seenL L vals') vals' ∧ w.grownBy w' (some tb) := by
  obtain ⟨sa, ss, vv, hT, hA, hB, hV⟩ := h.ex
  obtain ⟨va, vc, rfl⟩ := hv.shape
  have HT := Lib.hid hT
  have HA := Lib.hid hA
  have HLO := Lib.hid h.lo
  have HLT := Lib.hid (Nat.le_of_lt (Nat.lt_of_le_of_lt h.lo hT.lt))
  have HLEN := Lib.hid hlen
  have HBIG := Lib.hid hbig
  have HCLN := Lib.hid (clone_any w _ vals' hv hbig)
  have HMD := Lib.hid (made_any w tb sa _ _ hT)
  clear h hT hA hB hV hv hlen hbig
  go_enter Try.func13, Try.ntmps13
  go_upto_region 2 with (first | (go_at_call 34; go_must (refine HMD.out.mono ?_; rintro e w1 ⟨rfl, rfl⟩)) | (go_at_call 35; go_must (refine HCLN.out.mono ?_; rintro e w1 ⟨v', rfl, ho, hb⟩; obtain ⟨xa, xc, rfl⟩ := own_shape ho; have HO := Lib.hid ho; have HB1 := Lib.hid hb; have HT1 := Lib.hid (Whole.under hb HT.out HT.out.lt); clear ho hb)) | (refine wpList_store_blk rfl 23 _ _ rfl tb 2 (.slice xa vals'.length xc) rfl rfl 51 _ HT1.out (by simp [Value.cells]) size23 rfl ?_; intro w2 S2 W2; have HS2 := Lib.hid S2; have HT2 := Lib.hid (show Whole w2 tb 51 #[.pointer (some ⟨sa, 0, none⟩), .pointer (some ⟨ss, 0, none⟩), .slice xa vals'.length xc] from W2); clear S2 W2))
  have HG2 := Lib.hid (grown_trans (below_grown HB1.out (some tb)) HS2.out.grown)
  have HO2 := Lib.hid (HS2.out.own HO.out (own_blk_far HO.out HT1.out (by decide)))
  have HA2 := Lib.hid (HA.out.grown HG2.out HT.out (by decide) (by decide))
  have HSH := Lib.hid (show_any w2 base tb sa _ _ L vals' HT2.out HA2.out (own_low HO2.out HLT.out) HLEN.out HBIG.out)
  go_wp2_with (go_at_call 27; go_must (refine HSH.out.mono ?_; rintro e w4 ⟨rfl, ss', h1, h2, h3⟩; have H1 := Lib.hid h1; have H2 := Lib.hid h2; have H3 := Lib.hid h3; clear h1 h2 h3))
  go_returns
  exact ⟨rfl, ⟨⟨sa, ss', _, H1.out, HA2.out.grown H3.out HT2.out (by decide) (by decide), H2.out.low (Nat.le_trans HLT.out HG2.out.size), (own_low HO2.out HLT.out).kept H3.out (.inr (own_blk_far HO2.out HT2.out (by decide)))⟩, HLO.out⟩, grown_trans HG2.out H3.out⟩
set_option maxRecDepth 100000 in
set_option maxHeartbeats 4000000 in
theorem find_any (w : World) (base tb : Nat) (L S : List AEntry) (vals : List Bool) (s t c : Int) (h : TabAt w base tb L S vals) (hs : I64 s) (ht : I64 t) (hc : I64 c) :
    Calls Try.prog 19 #[.pointer (some ⟨tb, 0, none⟩), .int .i64 s, .int .i64 t, .int .i64 c] w fun e w' => e = .returned (.tuple #[.int .u32 (lookV S ⟨s, t, c, 0⟩).allow, .int .u32 (lookV S ⟨s, t, c, 0⟩).audit, .int .u32 (lookV S ⟨s, t, c, 0⟩).dont]) ∧ RowKit.Below w.heap.size w w' := by
  obtain ⟨sa, ss, vv, hT, hA, hB, hV⟩ := h.ex
  obtain ⟨mb, kv, hSs, hM, -, -, -⟩ := hB.ex
  have HMD := Lib.hid (made_any w tb sa _ _ hT)
  have t1 : w.cell? ⟨tb, 1, none⟩ = some (.pointer (some ⟨ss, 0, none⟩)) := hT.cell 1
  have s0 : w.cell? ⟨ss, 0, none⟩ = some (.map (some mb)) := hSs.cell 0
  obtain ⟨u, hu⟩ : ∃ u, u = lookV S ⟨s, t, c, 0⟩ := ⟨_, rfl⟩
  have hl : (Instr.lookup 70 (.map (some mb)) (.agg #[.int .i64 s, .int .i64 t, .int .i64 c, .int .i64 0]) false).run Try.prog w = .ok (.agg #[.int .u32 u.allow, .int .u32 u.audit, .int .u32 u.dont]) w := by
    rw [hu]
    exact store_look hM hB.ord (k := ⟨s, t, c, 0⟩) ⟨hs, ht, hc, (⟨by decide, by decide⟩ : I64 0)⟩
  rw [← hu]
  clear h hT hA hB hV hSs hM hs ht hc hu
  go_enter Try.func19, Try.ntmps19
  go_upto_region 4 with (first | (go_at_call 34; go_must (refine HMD.out.mono ?_; rintro e w1 ⟨rfl, rfl⟩)) | (refine wpList_store_blk rfl 62 _ _ rfl w.heap.size 0 (.agg #[.int .u32 u.allow, .int .u32 u.audit, .int .u32 u.dont]) rfl rfl 62 _ (Whole.new w 62 _) (by simp [Value.cells]) size62 rfl ?_; intro w3 S3 W3; rw [splice_all _ _ (by rfl)] at W3; have HS3 := Lib.hid S3; have HW3 := Lib.hid (show Whole w3 w.heap.size 62 #[.int .u32 u.allow, .int .u32 u.audit, .int .u32 u.dont] from W3); clear S3 W3))
  have HB3 := Lib.hid (show RowKit.Below w.heap.size w w3 from ((Below.refl _ w).alloc (Nat.le_refl _) _).trans (HS3.out.below (Nat.le_refl _)))
  refine find4 w3 w.heap.size u.allow u.audit u.dont _ _ _ _ _ _ _ _ _ _ _ _ _ _ _ _ _ _ _ _ _ _ _ _ _ _ _ _ _ _ _ _ HW3 ?_
  intro v27 v28 v29 v30 v31 v32 w4 hb4
  have HB4 := Lib.hid (HB3.out.trans (hb4.mono HB3.out.size))
  clear hb4
  go_wp2
  go_ret3
  exact ⟨rfl, HB4.out⟩
end Go.Proofs.Ytlkkdpoliafjbaa
