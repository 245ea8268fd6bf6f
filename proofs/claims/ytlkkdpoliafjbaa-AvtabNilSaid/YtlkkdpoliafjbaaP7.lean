import Derived.Test.YtlkkdpoliafjbaaP6
import Derived.Sort.OwnSortedInts
/-
  Tables: Targets and Sources.
-/
namespace Go.Proofs.Ytlkkdpoliafjbaa
open Go Go.WideMaps Go.RowKit

theorem filter_one {α : Type} (p : α → Bool) (y : α) : [y].filter p = if p y = true then [y] else [] := by cases h : p y <;> simp [h]
theorem sort_any (w : World) (base : Nat) (v : Value) (zs : List Int) (h : w.ownsRow base 3 1 v zs.length (zs.map anInt)) (hz : zs.length ≤ 1000000) :
    Calls Try.prog 43 #[v] w fun e w' => e = .returned (.tuple #[]) ∧ w'.ownsRow base 3 1 v zs.length ((zs.mergeSort fun x y => decide (x ≤ y)).map anInt) ∧ w.grownBy w' v.ownBlock := by
  rcases h.2 with ⟨rfl, h0⟩ | ⟨g, cap, cur, rfl, hg, hh, h1, h2, h3, h4⟩
  · have : zs = [] := List.eq_nil_of_length_eq_zero h0
    subst this
    refine (slices_Sort_int_none none 0 w).mono ?_
    rintro e w' ⟨rfl, rfl⟩
    exact ⟨rfl, by simpa using h, World.grownBy.refl _ _⟩
  · refine (slices_Sort_int g 0 cap zs w (holds_of_blockI hh (by rw [Nat.mul_one] at h4; exact h4)) (Array.getElem?_eq_some_iff.1 hh).1 (by omega)).mono ?_
    rintro e w' ⟨rfl, n, os, rfl⟩
    exact ⟨rfl, ownsRow_sortedI (List.length_mergeSort _) hg hh h1 h2 h3, grownBy_sortedI _⟩
set_option maxRecDepth 100000 in
set_option maxHeartbeats 4000000 in
theorem ch7_38_t (w : World) (tb kb sa ss mb : Nat) (kv vv pa pb : Value) (pm : Int) (k : Key4) (u : AVec) (x2 x4 x5 x6 x7 x8 x9 x10 x12 x13 x14 x15 x16 x17 x18 x19 x20 x21 x22 x23 x24 x25 x26 x27 x28 x29 x30 x31 x32 x33 x34 x35 x36 x37 x38 x39 x40 x41 x42 x43 x44 x45 x46 x47 x48 x49 x50 x51 x52 x53 x54 x55 : Value) (HT : Hid (Whole w tb 51 #[.pointer (some ⟨sa, 0, none⟩), .pointer (some ⟨ss, 0, none⟩), vv])) (HS : Hid (Whole w ss 73 #[.map (some mb), kv])) (HK : Hid (Whole w kb 60 #[.int .i64 k.src, .int .i64 k.tgt, .int .i64 k.cls, .int .i64 k.cond])) (HL : Hid (∀ W, RowKit.Below w.heap.size w W → (Instr.lookup 70 (.map (some mb)) (.agg #[.int .i64 k.src, .int .i64 k.tgt, .int .i64 k.cls, .int .i64 k.cond]) false).run Try.prog W = .ok (.agg #[.int .u32 u.allow, .int .u32 u.audit, .int .u32 u.dont]) W)) (HC : Hid (∀ W, RowKit.Below w.heap.size w W → Calls Try.prog 38 #[.agg #[.int .i64 k.src, .int .i64 k.tgt, .int .i64 k.cls, .int .i64 k.cond], pa, pb] W fun e w' => e = .returned (.bool true) ∧ RowKit.Below W.heap.size W w'))
    {Q' : Exit → Act → World → Prop} (hend : ∀ (v27 v28 v29 v30 v31 v32 v33 v34 v35 v36 v37 v38 v39 v40 v41 v42 v43 v44 : Value) (w' : World), RowKit.Below w.heap.size w w' → Q' .normal ⟨#[.pointer (some ⟨tb, 0, none⟩), .int .u32 pm, x2, .func (.func 38) #[] #[pa, pb], x4, x5, x6, x7, x8, x9, x10, .pointer (some ⟨kb, 0, none⟩), x12, x13, x14, x15, x16, x17, x18, x19, x20, x21, x22, x23, x24, x25, x26, v27, v28, v29, v30, v31, v32, v33, v34, v35, v36, v37, v38, v39, v40, v41, v42, v43, v44, .bool (bits .and .u32 u.allow pm == pm), x46, x47, x48, x49, x50, x51, x52, x53, x54, x55], []⟩ w') :
    Code.wp Try.prog (findRegion7 7 ((Try.f37.body).getD .skip)) Q' ⟨#[.pointer (some ⟨tb, 0, none⟩), .int .u32 pm, x2, .func (.func 38) #[] #[pa, pb], x4, x5, x6, x7, x8, x9, x10, .pointer (some ⟨kb, 0, none⟩), x12, x13, x14, x15, x16, x17, x18, x19, x20, x21, x22, x23, x24, x25, x26, x27, x28, x29, x30, x31, x32, x33, x34, x35, x36, x37, x38, x39, x40, x41, x42, x43, x44, x45, x46, x47, x48, x49, x50, x51, x52, x53, x54, x55], []⟩ w := by
  have HEND := Lib.hid hend
  clear hend
  conv => arg 2; whnf
  conv => arg 4; dsimp only
  refine wp_region_goods [some 27, some 28, some 29, some 30, some 31, some 32, some 33, some 34, some 35, some 36, some 37, some 38, some 39, some 40, some 41, some 42, some 43, some 44] [isW (.func (.func 38) #[] #[pa, pb]), isW (.agg #[.int .i64 k.src, .int .i64 k.tgt, .int .i64 k.cls, .int .i64 k.cond]), isW (.bool true), isW (.bool true), isW (.pointer (some ⟨tb, 0, none⟩)), isW (.pointer (some ⟨tb, 0, none⟩)), isW (.pointer (some ⟨tb, 1, none⟩)), isW (.pointer (some ⟨ss, 0, none⟩)), isW (.pointer (some ⟨ss, 0, none⟩)), isW (.pointer (some ⟨ss, 0, none⟩)), isW (.map (some mb)), isW (.agg #[.int .i64 k.src, .int .i64 k.tgt, .int .i64 k.cls, .int .i64 k.cond]), isW (.agg #[.int .u32 u.allow, .int .u32 u.audit, .int .u32 u.dont]), isW (.int .u32 u.allow), isW (.int .u32 pm), isW (.int .u32 (bits .and .u32 u.allow pm)), isW (.int .u32 pm), isW (.bool (bits .and .u32 u.allow pm == pm))] (fun _ w' => RowKit.Below w.heap.size w w') [] (by kernel_rfl) (by kernel_rfl) (by kernel_rfl) rfl (by decide) rfl rfl ((Below.refl _ _).drew) ⟨lastsW_is _, lastsW_is _, lastsW_is _, lastsW_is _, lastsW_is _, lastsW_is _, lastsW_is _, lastsW_is _, lastsW_is _, lastsW_is _, lastsW_is _, lastsW_is _, lastsW_is _, lastsW_is _, lastsW_is _, lastsW_is _, lastsW_is _, lastsW_is _, trivial⟩ ⟨?_, ?_, ?_, ?_, ?_, ?_, ?_, ?_, ?_, ?_, ?_, ?_, ?_, ?_, ?_, ?_, ?_, ?_, ?_⟩
  · intro L a wy Q' hL hi H F hK
    try dsimp only at hi
    have h3 : a.tmps[3]? = some (.func (.func 38) #[] #[pa, pb]) := F 3 rfl
    have HI := Lib.hid hi
    clear H F hi hL
    go_wp2_with fail
    exact hK _ _ (Below.refl _ _) HI.out rfl
  · intro L a wy Q' hL hi H F hK
    try dsimp only at hi
    have h11 : a.tmps[11]? = some (.pointer (some ⟨kb, 0, none⟩)) := F 11 rfl
    have HI := Lib.hid hi
    clear H F hi hL
    have kq0 : wy.cell? ⟨kb, 0, none⟩ = some (.int .i64 k.src) := (Whole.under HI.out HK.out (Whole.lt HK.out)).cell 0
    have kq1 : wy.cell? ⟨kb, 1, none⟩ = some (.int .i64 k.tgt) := (Whole.under HI.out HK.out (Whole.lt HK.out)).cell 1
    have kq2 : wy.cell? ⟨kb, 2, none⟩ = some (.int .i64 k.cls) := (Whole.under HI.out HK.out (Whole.lt HK.out)).cell 2
    have kq3 : wy.cell? ⟨kb, 3, none⟩ = some (.int .i64 k.cond) := (Whole.under HI.out HK.out (Whole.lt HK.out)).cell 3
    go_wp2_with fail
    exact hK _ _ (Below.refl _ _) HI.out rfl
  · intro L a wy Q' hL hi H F hK
    try dsimp only at hi
    obtain ⟨_, h27, rfl⟩ := H 0 ⟨.data, by simp, rfl⟩ _ rfl
    replace h27 := h27 _ rfl
    obtain ⟨_, h28, rfl⟩ := H 1 ⟨.data, by simp, rfl⟩ _ rfl
    replace h28 := h28 _ rfl
    have HI := Lib.hid hi
    clear H F hi hL
    have HK := Lib.hid hK
    clear hK
    go_wp2_with (go_at_call 38; go_must (refine (HC.out wy HI.out).mono ?_; rintro e w1 ⟨rfl, hb1⟩))
    exact HK.out _ _ hb1 (HI.out.trans (hb1.mono HI.out.size)) rfl
  · intro L a wy Q' hL hi H F hK
    try dsimp only at hi
    obtain ⟨_, h29, rfl⟩ := H 2 ⟨.data, by simp, rfl⟩ _ rfl
    replace h29 := h29 _ rfl
    have HI := Lib.hid hi
    clear H F hi hL
    go_wp2_with fail
    exact hK _ _ (Below.refl _ _) HI.out rfl
  · intro L a wy Q' hL hi H F hK
    try dsimp only at hi
    obtain ⟨_, h30, rfl⟩ := H 3 ⟨.guard, by simp, rfl⟩ _ rfl
    replace h30 := h30 _ rfl
    have h0 : a.tmps[0]? = some (.pointer (some ⟨tb, 0, none⟩)) := F 0 rfl
    have HI := Lib.hid hi
    clear H F hi hL
    go_wp2_with fail
    exact hK _ _ (Below.refl _ _) HI.out rfl
  · intro L a wy Q' hL hi H F hK
    try dsimp only at hi
    obtain ⟨_, h31, rfl⟩ := H 4 ⟨.data, by simp, rfl⟩ _ rfl
    replace h31 := h31 _ rfl
    obtain ⟨_, h30, rfl⟩ := H 3 ⟨.guard, by simp, rfl⟩ _ rfl
    replace h30 := h30 _ rfl
    have HI := Lib.hid hi
    clear H F hi hL
    go_wp2_with fail
    exact hK _ _ (Below.refl _ _) HI.out rfl
  · intro L a wy Q' hL hi H F hK
    try dsimp only at hi
    obtain ⟨_, h32, rfl⟩ := H 5 ⟨.data, by simp, rfl⟩ _ rfl
    replace h32 := h32 _ rfl
    obtain ⟨_, h30, rfl⟩ := H 3 ⟨.guard, by simp, rfl⟩ _ rfl
    replace h30 := h30 _ rfl
    have HI := Lib.hid hi
    clear H F hi hL
    go_wp2_with fail
    exact hK _ _ (Below.refl _ _) HI.out rfl
  · intro L a wy Q' hL hi H F hK
    try dsimp only at hi
    obtain ⟨_, h33, rfl⟩ := H 6 ⟨.data, by simp, rfl⟩ _ rfl
    replace h33 := h33 _ rfl
    obtain ⟨_, h30, rfl⟩ := H 3 ⟨.guard, by simp, rfl⟩ _ rfl
    replace h30 := h30 _ rfl
    have HI := Lib.hid hi
    clear H F hi hL
    have kq0 : wy.cell? ⟨tb, 1, none⟩ = some (.pointer (some ⟨ss, 0, none⟩)) := (Whole.under HI.out HT.out (Whole.lt HT.out)).cell 1
    go_wp2_with fail
    exact hK _ _ (Below.refl _ _) HI.out rfl
  · intro L a wy Q' hL hi H F hK
    try dsimp only at hi
    obtain ⟨_, h34, rfl⟩ := H 7 ⟨.data, by simp, rfl⟩ _ rfl
    replace h34 := h34 _ rfl
    obtain ⟨_, h30, rfl⟩ := H 3 ⟨.guard, by simp, rfl⟩ _ rfl
    replace h30 := h30 _ rfl
    have HI := Lib.hid hi
    clear H F hi hL
    go_wp2_with fail
    exact hK _ _ (Below.refl _ _) HI.out rfl
  · intro L a wy Q' hL hi H F hK
    try dsimp only at hi
    obtain ⟨_, h35, rfl⟩ := H 8 ⟨.data, by simp, rfl⟩ _ rfl
    replace h35 := h35 _ rfl
    obtain ⟨_, h30, rfl⟩ := H 3 ⟨.guard, by simp, rfl⟩ _ rfl
    replace h30 := h30 _ rfl
    have HI := Lib.hid hi
    clear H F hi hL
    go_wp2_with fail
    exact hK _ _ (Below.refl _ _) HI.out rfl
  · intro L a wy Q' hL hi H F hK
    try dsimp only at hi
    obtain ⟨_, h36, rfl⟩ := H 9 ⟨.data, by simp, rfl⟩ _ rfl
    replace h36 := h36 _ rfl
    obtain ⟨_, h30, rfl⟩ := H 3 ⟨.guard, by simp, rfl⟩ _ rfl
    replace h30 := h30 _ rfl
    have HI := Lib.hid hi
    clear H F hi hL
    have kq0 : wy.cell? ⟨ss, 0, none⟩ = some (.map (some mb)) := (Whole.under HI.out HS.out (Whole.lt HS.out)).cell 0
    go_wp2_with fail
    exact hK _ _ (Below.refl _ _) HI.out rfl
  · intro L a wy Q' hL hi H F hK
    try dsimp only at hi
    obtain ⟨_, h30, rfl⟩ := H 3 ⟨.guard, by simp, rfl⟩ _ rfl
    replace h30 := h30 _ rfl
    have h11 : a.tmps[11]? = some (.pointer (some ⟨kb, 0, none⟩)) := F 11 rfl
    have HI := Lib.hid hi
    clear H F hi hL
    have kq0 : wy.cell? ⟨kb, 0, none⟩ = some (.int .i64 k.src) := (Whole.under HI.out HK.out (Whole.lt HK.out)).cell 0
    have kq1 : wy.cell? ⟨kb, 1, none⟩ = some (.int .i64 k.tgt) := (Whole.under HI.out HK.out (Whole.lt HK.out)).cell 1
    have kq2 : wy.cell? ⟨kb, 2, none⟩ = some (.int .i64 k.cls) := (Whole.under HI.out HK.out (Whole.lt HK.out)).cell 2
    have kq3 : wy.cell? ⟨kb, 3, none⟩ = some (.int .i64 k.cond) := (Whole.under HI.out HK.out (Whole.lt HK.out)).cell 3
    go_wp2_with fail
    exact hK _ _ (Below.refl _ _) HI.out rfl
  · intro L a wy Q' hL hi H F hK
    try dsimp only at hi
    obtain ⟨_, h37, rfl⟩ := H 10 ⟨.data, by simp, rfl⟩ _ rfl
    replace h37 := h37 _ rfl
    obtain ⟨_, h38, rfl⟩ := H 11 ⟨.data, by simp, rfl⟩ _ rfl
    replace h38 := h38 _ rfl
    obtain ⟨_, h30, rfl⟩ := H 3 ⟨.guard, by simp, rfl⟩ _ rfl
    replace h30 := h30 _ rfl
    have HI := Lib.hid hi
    clear H F hi hL
    have q := HL.out wy HI.out
    go_wp2_with fail
    exact hK _ _ (Below.refl _ _) HI.out rfl
  · intro L a wy Q' hL hi H F hK
    try dsimp only at hi
    obtain ⟨_, h39, rfl⟩ := H 12 ⟨.data, by simp, rfl⟩ _ rfl
    replace h39 := h39 _ rfl
    obtain ⟨_, h30, rfl⟩ := H 3 ⟨.guard, by simp, rfl⟩ _ rfl
    replace h30 := h30 _ rfl
    have HI := Lib.hid hi
    clear H F hi hL
    have q : ∀ W, (Instr.index 62 (.agg #[.int .u32 u.allow, .int .u32 u.audit, .int .u32 u.dont]) (.int .i64 0)).run Try.prog W = .ok (.int .u32 u.allow) W := fun W => by kernel_rfl
    go_wp2_with fail
    exact hK _ _ (Below.refl _ _) HI.out rfl
  · intro L a wy Q' hL hi H F hK
    try dsimp only at hi
    obtain ⟨_, h30, rfl⟩ := H 3 ⟨.guard, by simp, rfl⟩ _ rfl
    replace h30 := h30 _ rfl
    have h1 : a.tmps[1]? = some (.int .u32 pm) := F 1 rfl
    have HI := Lib.hid hi
    clear H F hi hL
    go_wp2_with fail
    exact hK _ _ (Below.refl _ _) HI.out rfl
  · intro L a wy Q' hL hi H F hK
    try dsimp only at hi
    obtain ⟨_, h40, rfl⟩ := H 13 ⟨.data, by simp, rfl⟩ _ rfl
    replace h40 := h40 _ rfl
    obtain ⟨_, h41, rfl⟩ := H 14 ⟨.data, by simp, rfl⟩ _ rfl
    replace h41 := h41 _ rfl
    obtain ⟨_, h30, rfl⟩ := H 3 ⟨.guard, by simp, rfl⟩ _ rfl
    replace h30 := h30 _ rfl
    have HI := Lib.hid hi
    clear H F hi hL
    go_wp2_with fail
    exact hK _ _ (Below.refl _ _) HI.out rfl
  · intro L a wy Q' hL hi H F hK
    try dsimp only at hi
    obtain ⟨_, h30, rfl⟩ := H 3 ⟨.guard, by simp, rfl⟩ _ rfl
    replace h30 := h30 _ rfl
    have h1 : a.tmps[1]? = some (.int .u32 pm) := F 1 rfl
    have HI := Lib.hid hi
    clear H F hi hL
    go_wp2_with fail
    exact hK _ _ (Below.refl _ _) HI.out rfl
  · intro L a wy Q' hL hi H F hK
    try dsimp only at hi
    obtain ⟨_, h42, rfl⟩ := H 15 ⟨.data, by simp, rfl⟩ _ rfl
    replace h42 := h42 _ rfl
    obtain ⟨_, h43, rfl⟩ := H 16 ⟨.data, by simp, rfl⟩ _ rfl
    replace h43 := h43 _ rfl
    obtain ⟨_, h30, rfl⟩ := H 3 ⟨.guard, by simp, rfl⟩ _ rfl
    replace h30 := h30 _ rfl
    have HI := Lib.hid hi
    clear H F hi hL
    go_wp2_with fail
    exact hK _ _ (Below.refl _ _) HI.out rfl
  · intro a wy L hl hi hL Q' hK
    try dsimp only at hi
    have HB := Lib.hid hi
    clear hi hL
    obtain ⟨_, rfl, _, rfl, _, rfl, _, rfl, _, rfl, _, rfl, _, rfl, _, rfl, _, rfl, _, rfl, _, rfl, _, rfl, _, rfl, _, rfl, _, rfl, _, rfl, _, rfl, _, rfl, rfl⟩ := hl
    simp only [List.setIfInBounds_toArray, List.set_cons_zero, List.set_cons_succ]
    go_wp2_with fail
    exact HEND.out _ _ _ _ _ _ _ _ _ _ _ _ _ _ _ _ _ _ _ HB.out
set_option maxRecDepth 100000 in
set_option maxHeartbeats 4000000 in
theorem ch7_38_f (w : World) (tb kb sa ss mb : Nat) (kv vv pa pb : Value) (pm : Int) (k : Key4) (u : AVec) (x2 x4 x5 x6 x7 x8 x9 x10 x12 x13 x14 x15 x16 x17 x18 x19 x20 x21 x22 x23 x24 x25 x26 x27 x28 x29 x30 x31 x32 x33 x34 x35 x36 x37 x38 x39 x40 x41 x42 x43 x44 x45 x46 x47 x48 x49 x50 x51 x52 x53 x54 x55 : Value) (_ : Hid (Whole w tb 51 #[.pointer (some ⟨sa, 0, none⟩), .pointer (some ⟨ss, 0, none⟩), vv])) (_ : Hid (Whole w ss 73 #[.map (some mb), kv])) (HK : Hid (Whole w kb 60 #[.int .i64 k.src, .int .i64 k.tgt, .int .i64 k.cls, .int .i64 k.cond])) (_ : Hid (∀ W, RowKit.Below w.heap.size w W → (Instr.lookup 70 (.map (some mb)) (.agg #[.int .i64 k.src, .int .i64 k.tgt, .int .i64 k.cls, .int .i64 k.cond]) false).run Try.prog W = .ok (.agg #[.int .u32 u.allow, .int .u32 u.audit, .int .u32 u.dont]) W)) (HC : Hid (∀ W, RowKit.Below w.heap.size w W → Calls Try.prog 38 #[.agg #[.int .i64 k.src, .int .i64 k.tgt, .int .i64 k.cls, .int .i64 k.cond], pa, pb] W fun e w' => e = .returned (.bool false) ∧ RowKit.Below W.heap.size W w'))
    {Q' : Exit → Act → World → Prop} (hend : ∀ (v27 v28 v29 v30 v31 v32 v33 v34 v35 v36 v37 v38 v39 v40 v41 v42 v43 v44 : Value) (w' : World), RowKit.Below w.heap.size w w' → Q' .normal ⟨#[.pointer (some ⟨tb, 0, none⟩), .int .u32 pm, x2, .func (.func 38) #[] #[pa, pb], x4, x5, x6, x7, x8, x9, x10, .pointer (some ⟨kb, 0, none⟩), x12, x13, x14, x15, x16, x17, x18, x19, x20, x21, x22, x23, x24, x25, x26, v27, v28, v29, v30, v31, v32, v33, v34, v35, v36, v37, v38, v39, v40, v41, v42, v43, v44, .bool false, x46, x47, x48, x49, x50, x51, x52, x53, x54, x55], []⟩ w') :
    Code.wp Try.prog (findRegion7 7 ((Try.f37.body).getD .skip)) Q' ⟨#[.pointer (some ⟨tb, 0, none⟩), .int .u32 pm, x2, .func (.func 38) #[] #[pa, pb], x4, x5, x6, x7, x8, x9, x10, .pointer (some ⟨kb, 0, none⟩), x12, x13, x14, x15, x16, x17, x18, x19, x20, x21, x22, x23, x24, x25, x26, x27, x28, x29, x30, x31, x32, x33, x34, x35, x36, x37, x38, x39, x40, x41, x42, x43, x44, x45, x46, x47, x48, x49, x50, x51, x52, x53, x54, x55], []⟩ w := by
  have HEND := Lib.hid hend
  clear hend
  conv => arg 2; whnf
  conv => arg 4; dsimp only
  refine wp_region_goods [some 27, some 28, some 29, some 30, some 31, some 32, some 33, some 34, some 35, some 36, some 37, some 38, some 39, some 40, some 41, some 42, some 43, some 44] [isW (.func (.func 38) #[] #[pa, pb]), isW (.agg #[.int .i64 k.src, .int .i64 k.tgt, .int .i64 k.cls, .int .i64 k.cond]), isW (.bool false), isW (.bool false), isW (undef), isW (undef), isW (undef), isW (undef), isW (undef), isW (undef), isW (undef), isW (undef), isW (undef), isW (undef), isW (undef), isW (undef), isW (undef), isW (undef)] (fun _ w' => RowKit.Below w.heap.size w w') [] (by kernel_rfl) (by kernel_rfl) (by kernel_rfl) rfl (by decide) rfl rfl ((Below.refl _ _).drew) ⟨lastsW_is _, lastsW_is _, lastsW_is _, lastsW_is _, lastsW_is _, lastsW_is _, lastsW_is _, lastsW_is _, lastsW_is _, lastsW_is _, lastsW_is _, lastsW_is _, lastsW_is _, lastsW_is _, lastsW_is _, lastsW_is _, lastsW_is _, lastsW_is _, trivial⟩ ⟨?_, ?_, ?_, ?_, ?_, ?_, ?_, ?_, ?_, ?_, ?_, ?_, ?_, ?_, ?_, ?_, ?_, ?_, ?_⟩
  · intro L a wy Q' hL hi H F hK
    try dsimp only at hi
    have h3 : a.tmps[3]? = some (.func (.func 38) #[] #[pa, pb]) := F 3 rfl
    have HI := Lib.hid hi
    clear H F hi hL
    go_wp2_with fail
    exact hK _ _ (Below.refl _ _) HI.out rfl
  · intro L a wy Q' hL hi H F hK
    try dsimp only at hi
    have h11 : a.tmps[11]? = some (.pointer (some ⟨kb, 0, none⟩)) := F 11 rfl
    have HI := Lib.hid hi
    clear H F hi hL
    have kq0 : wy.cell? ⟨kb, 0, none⟩ = some (.int .i64 k.src) := (Whole.under HI.out HK.out (Whole.lt HK.out)).cell 0
    have kq1 : wy.cell? ⟨kb, 1, none⟩ = some (.int .i64 k.tgt) := (Whole.under HI.out HK.out (Whole.lt HK.out)).cell 1
    have kq2 : wy.cell? ⟨kb, 2, none⟩ = some (.int .i64 k.cls) := (Whole.under HI.out HK.out (Whole.lt HK.out)).cell 2
    have kq3 : wy.cell? ⟨kb, 3, none⟩ = some (.int .i64 k.cond) := (Whole.under HI.out HK.out (Whole.lt HK.out)).cell 3
    go_wp2_with fail
    exact hK _ _ (Below.refl _ _) HI.out rfl
  · intro L a wy Q' hL hi H F hK
    try dsimp only at hi
    obtain ⟨_, h27, rfl⟩ := H 0 ⟨.data, by simp, rfl⟩ _ rfl
    replace h27 := h27 _ rfl
    obtain ⟨_, h28, rfl⟩ := H 1 ⟨.data, by simp, rfl⟩ _ rfl
    replace h28 := h28 _ rfl
    have HI := Lib.hid hi
    clear H F hi hL
    have HK := Lib.hid hK
    clear hK
    go_wp2_with (go_at_call 38; go_must (refine (HC.out wy HI.out).mono ?_; rintro e w1 ⟨rfl, hb1⟩))
    exact HK.out _ _ hb1 (HI.out.trans (hb1.mono HI.out.size)) rfl
  · intro L a wy Q' hL hi H F hK
    try dsimp only at hi
    obtain ⟨_, h29, rfl⟩ := H 2 ⟨.data, by simp, rfl⟩ _ rfl
    replace h29 := h29 _ rfl
    have HI := Lib.hid hi
    clear H F hi hL
    go_wp2_with fail
    exact hK _ _ (Below.refl _ _) HI.out rfl
  · intro L a wy Q' hL hi H F hK
    try dsimp only at hi
    obtain ⟨_, h30, rfl⟩ := H 3 ⟨.guard, by simp, rfl⟩ _ rfl
    replace h30 := h30 _ rfl
    have h0 : a.tmps[0]? = some (.pointer (some ⟨tb, 0, none⟩)) := F 0 rfl
    have HI := Lib.hid hi
    clear H F hi hL
    refine wpList_skip (by simp [Region.wanted, yielded, h30]) ?_
    exact hK _ _ (Below.refl _ _) HI.out rfl
  · intro L a wy Q' hL hi H F hK
    try dsimp only at hi
    obtain ⟨_, h31, rfl⟩ := H 4 ⟨.data, by simp, rfl⟩ _ rfl
    replace h31 := h31 _ rfl
    obtain ⟨_, h30, rfl⟩ := H 3 ⟨.guard, by simp, rfl⟩ _ rfl
    replace h30 := h30 _ rfl
    have HI := Lib.hid hi
    clear H F hi hL
    refine wpList_skip (by simp [Region.wanted, yielded, h30]) ?_
    exact hK _ _ (Below.refl _ _) HI.out rfl
  · intro L a wy Q' hL hi H F hK
    try dsimp only at hi
    obtain ⟨_, h32, rfl⟩ := H 5 ⟨.data, by simp, rfl⟩ _ rfl
    replace h32 := h32 _ rfl
    obtain ⟨_, h30, rfl⟩ := H 3 ⟨.guard, by simp, rfl⟩ _ rfl
    replace h30 := h30 _ rfl
    have HI := Lib.hid hi
    clear H F hi hL
    refine wpList_skip (by simp [Region.wanted, yielded, h30]) ?_
    exact hK _ _ (Below.refl _ _) HI.out rfl
  · intro L a wy Q' hL hi H F hK
    try dsimp only at hi
    obtain ⟨_, h33, rfl⟩ := H 6 ⟨.data, by simp, rfl⟩ _ rfl
    replace h33 := h33 _ rfl
    obtain ⟨_, h30, rfl⟩ := H 3 ⟨.guard, by simp, rfl⟩ _ rfl
    replace h30 := h30 _ rfl
    have HI := Lib.hid hi
    clear H F hi hL
    refine wpList_skip (by simp [Region.wanted, yielded, h30]) ?_
    exact hK _ _ (Below.refl _ _) HI.out rfl
  · intro L a wy Q' hL hi H F hK
    try dsimp only at hi
    obtain ⟨_, h34, rfl⟩ := H 7 ⟨.data, by simp, rfl⟩ _ rfl
    replace h34 := h34 _ rfl
    obtain ⟨_, h30, rfl⟩ := H 3 ⟨.guard, by simp, rfl⟩ _ rfl
    replace h30 := h30 _ rfl
    have HI := Lib.hid hi
    clear H F hi hL
    refine wpList_skip (by simp [Region.wanted, yielded, h30]) ?_
    exact hK _ _ (Below.refl _ _) HI.out rfl
  · intro L a wy Q' hL hi H F hK
    try dsimp only at hi
    obtain ⟨_, h35, rfl⟩ := H 8 ⟨.data, by simp, rfl⟩ _ rfl
    replace h35 := h35 _ rfl
    obtain ⟨_, h30, rfl⟩ := H 3 ⟨.guard, by simp, rfl⟩ _ rfl
    replace h30 := h30 _ rfl
    have HI := Lib.hid hi
    clear H F hi hL
    refine wpList_skip (by simp [Region.wanted, yielded, h30]) ?_
    exact hK _ _ (Below.refl _ _) HI.out rfl
  · intro L a wy Q' hL hi H F hK
    try dsimp only at hi
    obtain ⟨_, h36, rfl⟩ := H 9 ⟨.data, by simp, rfl⟩ _ rfl
    replace h36 := h36 _ rfl
    obtain ⟨_, h30, rfl⟩ := H 3 ⟨.guard, by simp, rfl⟩ _ rfl
    replace h30 := h30 _ rfl
    have HI := Lib.hid hi
    clear H F hi hL
    refine wpList_skip (by simp [Region.wanted, yielded, h30]) ?_
    exact hK _ _ (Below.refl _ _) HI.out rfl
  · intro L a wy Q' hL hi H F hK
    try dsimp only at hi
    obtain ⟨_, h30, rfl⟩ := H 3 ⟨.guard, by simp, rfl⟩ _ rfl
    replace h30 := h30 _ rfl
    have h11 : a.tmps[11]? = some (.pointer (some ⟨kb, 0, none⟩)) := F 11 rfl
    have HI := Lib.hid hi
    clear H F hi hL
    refine wpList_skip (by simp [Region.wanted, yielded, h30]) ?_
    exact hK _ _ (Below.refl _ _) HI.out rfl
  · intro L a wy Q' hL hi H F hK
    try dsimp only at hi
    obtain ⟨_, h37, rfl⟩ := H 10 ⟨.data, by simp, rfl⟩ _ rfl
    replace h37 := h37 _ rfl
    obtain ⟨_, h38, rfl⟩ := H 11 ⟨.data, by simp, rfl⟩ _ rfl
    replace h38 := h38 _ rfl
    obtain ⟨_, h30, rfl⟩ := H 3 ⟨.guard, by simp, rfl⟩ _ rfl
    replace h30 := h30 _ rfl
    have HI := Lib.hid hi
    clear H F hi hL
    refine wpList_skip (by simp [Region.wanted, yielded, h30]) ?_
    exact hK _ _ (Below.refl _ _) HI.out rfl
  · intro L a wy Q' hL hi H F hK
    try dsimp only at hi
    obtain ⟨_, h39, rfl⟩ := H 12 ⟨.data, by simp, rfl⟩ _ rfl
    replace h39 := h39 _ rfl
    obtain ⟨_, h30, rfl⟩ := H 3 ⟨.guard, by simp, rfl⟩ _ rfl
    replace h30 := h30 _ rfl
    have HI := Lib.hid hi
    clear H F hi hL
    refine wpList_skip (by simp [Region.wanted, yielded, h30]) ?_
    exact hK _ _ (Below.refl _ _) HI.out rfl
  · intro L a wy Q' hL hi H F hK
    try dsimp only at hi
    obtain ⟨_, h30, rfl⟩ := H 3 ⟨.guard, by simp, rfl⟩ _ rfl
    replace h30 := h30 _ rfl
    have h1 : a.tmps[1]? = some (.int .u32 pm) := F 1 rfl
    have HI := Lib.hid hi
    clear H F hi hL
    refine wpList_skip (by simp [Region.wanted, yielded, h30]) ?_
    exact hK _ _ (Below.refl _ _) HI.out rfl
  · intro L a wy Q' hL hi H F hK
    try dsimp only at hi
    obtain ⟨_, h40, rfl⟩ := H 13 ⟨.data, by simp, rfl⟩ _ rfl
    replace h40 := h40 _ rfl
    obtain ⟨_, h41, rfl⟩ := H 14 ⟨.data, by simp, rfl⟩ _ rfl
    replace h41 := h41 _ rfl
    obtain ⟨_, h30, rfl⟩ := H 3 ⟨.guard, by simp, rfl⟩ _ rfl
    replace h30 := h30 _ rfl
    have HI := Lib.hid hi
    clear H F hi hL
    refine wpList_skip (by simp [Region.wanted, yielded, h30]) ?_
    exact hK _ _ (Below.refl _ _) HI.out rfl
  · intro L a wy Q' hL hi H F hK
    try dsimp only at hi
    obtain ⟨_, h30, rfl⟩ := H 3 ⟨.guard, by simp, rfl⟩ _ rfl
    replace h30 := h30 _ rfl
    have h1 : a.tmps[1]? = some (.int .u32 pm) := F 1 rfl
    have HI := Lib.hid hi
    clear H F hi hL
    refine wpList_skip (by simp [Region.wanted, yielded, h30]) ?_
    exact hK _ _ (Below.refl _ _) HI.out rfl
  · intro L a wy Q' hL hi H F hK
    try dsimp only at hi
    obtain ⟨_, h42, rfl⟩ := H 15 ⟨.data, by simp, rfl⟩ _ rfl
    replace h42 := h42 _ rfl
    obtain ⟨_, h43, rfl⟩ := H 16 ⟨.data, by simp, rfl⟩ _ rfl
    replace h43 := h43 _ rfl
    obtain ⟨_, h30, rfl⟩ := H 3 ⟨.guard, by simp, rfl⟩ _ rfl
    replace h30 := h30 _ rfl
    have HI := Lib.hid hi
    clear H F hi hL
    refine wpList_skip (by simp [Region.wanted, yielded, h30]) ?_
    exact hK _ _ (Below.refl _ _) HI.out rfl
  · intro a wy L hl hi hL Q' hK
    try dsimp only at hi
    have HB := Lib.hid hi
    clear hi hL
    obtain ⟨_, rfl, _, rfl, _, rfl, _, rfl, _, rfl, _, rfl, _, rfl, _, rfl, _, rfl, _, rfl, _, rfl, _, rfl, _, rfl, _, rfl, _, rfl, _, rfl, _, rfl, _, rfl, rfl⟩ := hl
    simp only [List.setIfInBounds_toArray, List.set_cons_zero, List.set_cons_succ]
    go_wp2_with fail
    exact HEND.out _ _ _ _ _ _ _ _ _ _ _ _ _ _ _ _ _ _ _ HB.out
set_option maxRecDepth 100000 in
set_option maxHeartbeats 4000000 in
theorem ch7_39_t (w : World) (tb kb sa ss mb : Nat) (kv vv pa pb : Value) (pm : Int) (k : Key4) (u : AVec) (x2 x4 x5 x6 x7 x8 x9 x10 x12 x13 x14 x15 x16 x17 x18 x19 x20 x21 x22 x23 x24 x25 x26 x27 x28 x29 x30 x31 x32 x33 x34 x35 x36 x37 x38 x39 x40 x41 x42 x43 x44 x45 x46 x47 x48 x49 x50 x51 x52 x53 x54 x55 : Value) (HT : Hid (Whole w tb 51 #[.pointer (some ⟨sa, 0, none⟩), .pointer (some ⟨ss, 0, none⟩), vv])) (HS : Hid (Whole w ss 73 #[.map (some mb), kv])) (HK : Hid (Whole w kb 60 #[.int .i64 k.src, .int .i64 k.tgt, .int .i64 k.cls, .int .i64 k.cond])) (HL : Hid (∀ W, RowKit.Below w.heap.size w W → (Instr.lookup 70 (.map (some mb)) (.agg #[.int .i64 k.src, .int .i64 k.tgt, .int .i64 k.cls, .int .i64 k.cond]) false).run Try.prog W = .ok (.agg #[.int .u32 u.allow, .int .u32 u.audit, .int .u32 u.dont]) W)) (HC : Hid (∀ W, RowKit.Below w.heap.size w W → Calls Try.prog 39 #[.agg #[.int .i64 k.src, .int .i64 k.tgt, .int .i64 k.cls, .int .i64 k.cond], pa, pb] W fun e w' => e = .returned (.bool true) ∧ RowKit.Below W.heap.size W w'))
    {Q' : Exit → Act → World → Prop} (hend : ∀ (v27 v28 v29 v30 v31 v32 v33 v34 v35 v36 v37 v38 v39 v40 v41 v42 v43 v44 : Value) (w' : World), RowKit.Below w.heap.size w w' → Q' .normal ⟨#[.pointer (some ⟨tb, 0, none⟩), .int .u32 pm, x2, .func (.func 39) #[] #[pa, pb], x4, x5, x6, x7, x8, x9, x10, .pointer (some ⟨kb, 0, none⟩), x12, x13, x14, x15, x16, x17, x18, x19, x20, x21, x22, x23, x24, x25, x26, v27, v28, v29, v30, v31, v32, v33, v34, v35, v36, v37, v38, v39, v40, v41, v42, v43, v44, .bool (bits .and .u32 u.allow pm == pm), x46, x47, x48, x49, x50, x51, x52, x53, x54, x55], []⟩ w') :
    Code.wp Try.prog (findRegion7 7 ((Try.f37.body).getD .skip)) Q' ⟨#[.pointer (some ⟨tb, 0, none⟩), .int .u32 pm, x2, .func (.func 39) #[] #[pa, pb], x4, x5, x6, x7, x8, x9, x10, .pointer (some ⟨kb, 0, none⟩), x12, x13, x14, x15, x16, x17, x18, x19, x20, x21, x22, x23, x24, x25, x26, x27, x28, x29, x30, x31, x32, x33, x34, x35, x36, x37, x38, x39, x40, x41, x42, x43, x44, x45, x46, x47, x48, x49, x50, x51, x52, x53, x54, x55], []⟩ w := by
  have HEND := Lib.hid hend
  clear hend
  conv => arg 2; whnf
  conv => arg 4; dsimp only
  refine wp_region_goods [some 27, some 28, some 29, some 30, some 31, some 32, some 33, some 34, some 35, some 36, some 37, some 38, some 39, some 40, some 41, some 42, some 43, some 44] [isW (.func (.func 39) #[] #[pa, pb]), isW (.agg #[.int .i64 k.src, .int .i64 k.tgt, .int .i64 k.cls, .int .i64 k.cond]), isW (.bool true), isW (.bool true), isW (.pointer (some ⟨tb, 0, none⟩)), isW (.pointer (some ⟨tb, 0, none⟩)), isW (.pointer (some ⟨tb, 1, none⟩)), isW (.pointer (some ⟨ss, 0, none⟩)), isW (.pointer (some ⟨ss, 0, none⟩)), isW (.pointer (some ⟨ss, 0, none⟩)), isW (.map (some mb)), isW (.agg #[.int .i64 k.src, .int .i64 k.tgt, .int .i64 k.cls, .int .i64 k.cond]), isW (.agg #[.int .u32 u.allow, .int .u32 u.audit, .int .u32 u.dont]), isW (.int .u32 u.allow), isW (.int .u32 pm), isW (.int .u32 (bits .and .u32 u.allow pm)), isW (.int .u32 pm), isW (.bool (bits .and .u32 u.allow pm == pm))] (fun _ w' => RowKit.Below w.heap.size w w') [] (by kernel_rfl) (by kernel_rfl) (by kernel_rfl) rfl (by decide) rfl rfl ((Below.refl _ _).drew) ⟨lastsW_is _, lastsW_is _, lastsW_is _, lastsW_is _, lastsW_is _, lastsW_is _, lastsW_is _, lastsW_is _, lastsW_is _, lastsW_is _, lastsW_is _, lastsW_is _, lastsW_is _, lastsW_is _, lastsW_is _, lastsW_is _, lastsW_is _, lastsW_is _, trivial⟩ ⟨?_, ?_, ?_, ?_, ?_, ?_, ?_, ?_, ?_, ?_, ?_, ?_, ?_, ?_, ?_, ?_, ?_, ?_, ?_⟩
  · intro L a wy Q' hL hi H F hK
    try dsimp only at hi
    have h3 : a.tmps[3]? = some (.func (.func 39) #[] #[pa, pb]) := F 3 rfl
    have HI := Lib.hid hi
    clear H F hi hL
    go_wp2_with fail
    exact hK _ _ (Below.refl _ _) HI.out rfl
  · intro L a wy Q' hL hi H F hK
    try dsimp only at hi
    have h11 : a.tmps[11]? = some (.pointer (some ⟨kb, 0, none⟩)) := F 11 rfl
    have HI := Lib.hid hi
    clear H F hi hL
    have kq0 : wy.cell? ⟨kb, 0, none⟩ = some (.int .i64 k.src) := (Whole.under HI.out HK.out (Whole.lt HK.out)).cell 0
    have kq1 : wy.cell? ⟨kb, 1, none⟩ = some (.int .i64 k.tgt) := (Whole.under HI.out HK.out (Whole.lt HK.out)).cell 1
    have kq2 : wy.cell? ⟨kb, 2, none⟩ = some (.int .i64 k.cls) := (Whole.under HI.out HK.out (Whole.lt HK.out)).cell 2
    have kq3 : wy.cell? ⟨kb, 3, none⟩ = some (.int .i64 k.cond) := (Whole.under HI.out HK.out (Whole.lt HK.out)).cell 3
    go_wp2_with fail
    exact hK _ _ (Below.refl _ _) HI.out rfl
  · intro L a wy Q' hL hi H F hK
    try dsimp only at hi
    obtain ⟨_, h27, rfl⟩ := H 0 ⟨.data, by simp, rfl⟩ _ rfl
    replace h27 := h27 _ rfl
    obtain ⟨_, h28, rfl⟩ := H 1 ⟨.data, by simp, rfl⟩ _ rfl
    replace h28 := h28 _ rfl
    have HI := Lib.hid hi
    clear H F hi hL
    have HK := Lib.hid hK
    clear hK
    go_wp2_with (go_at_call 39; go_must (refine (HC.out wy HI.out).mono ?_; rintro e w1 ⟨rfl, hb1⟩))
    exact HK.out _ _ hb1 (HI.out.trans (hb1.mono HI.out.size)) rfl
  · intro L a wy Q' hL hi H F hK
    try dsimp only at hi
    obtain ⟨_, h29, rfl⟩ := H 2 ⟨.data, by simp, rfl⟩ _ rfl
    replace h29 := h29 _ rfl
    have HI := Lib.hid hi
    clear H F hi hL
    go_wp2_with fail
    exact hK _ _ (Below.refl _ _) HI.out rfl
  · intro L a wy Q' hL hi H F hK
    try dsimp only at hi
    obtain ⟨_, h30, rfl⟩ := H 3 ⟨.guard, by simp, rfl⟩ _ rfl
    replace h30 := h30 _ rfl
    have h0 : a.tmps[0]? = some (.pointer (some ⟨tb, 0, none⟩)) := F 0 rfl
    have HI := Lib.hid hi
    clear H F hi hL
    go_wp2_with fail
    exact hK _ _ (Below.refl _ _) HI.out rfl
  · intro L a wy Q' hL hi H F hK
    try dsimp only at hi
    obtain ⟨_, h31, rfl⟩ := H 4 ⟨.data, by simp, rfl⟩ _ rfl
    replace h31 := h31 _ rfl
    obtain ⟨_, h30, rfl⟩ := H 3 ⟨.guard, by simp, rfl⟩ _ rfl
    replace h30 := h30 _ rfl
    have HI := Lib.hid hi
    clear H F hi hL
    go_wp2_with fail
    exact hK _ _ (Below.refl _ _) HI.out rfl
  · intro L a wy Q' hL hi H F hK
    try dsimp only at hi
    obtain ⟨_, h32, rfl⟩ := H 5 ⟨.data, by simp, rfl⟩ _ rfl
    replace h32 := h32 _ rfl
    obtain ⟨_, h30, rfl⟩ := H 3 ⟨.guard, by simp, rfl⟩ _ rfl
    replace h30 := h30 _ rfl
    have HI := Lib.hid hi
    clear H F hi hL
    go_wp2_with fail
    exact hK _ _ (Below.refl _ _) HI.out rfl
  · intro L a wy Q' hL hi H F hK
    try dsimp only at hi
    obtain ⟨_, h33, rfl⟩ := H 6 ⟨.data, by simp, rfl⟩ _ rfl
    replace h33 := h33 _ rfl
    obtain ⟨_, h30, rfl⟩ := H 3 ⟨.guard, by simp, rfl⟩ _ rfl
    replace h30 := h30 _ rfl
    have HI := Lib.hid hi
    clear H F hi hL
    have kq0 : wy.cell? ⟨tb, 1, none⟩ = some (.pointer (some ⟨ss, 0, none⟩)) := (Whole.under HI.out HT.out (Whole.lt HT.out)).cell 1
    go_wp2_with fail
    exact hK _ _ (Below.refl _ _) HI.out rfl
  · intro L a wy Q' hL hi H F hK
    try dsimp only at hi
    obtain ⟨_, h34, rfl⟩ := H 7 ⟨.data, by simp, rfl⟩ _ rfl
    replace h34 := h34 _ rfl
    obtain ⟨_, h30, rfl⟩ := H 3 ⟨.guard, by simp, rfl⟩ _ rfl
    replace h30 := h30 _ rfl
    have HI := Lib.hid hi
    clear H F hi hL
    go_wp2_with fail
    exact hK _ _ (Below.refl _ _) HI.out rfl
  · intro L a wy Q' hL hi H F hK
    try dsimp only at hi
    obtain ⟨_, h35, rfl⟩ := H 8 ⟨.data, by simp, rfl⟩ _ rfl
    replace h35 := h35 _ rfl
    obtain ⟨_, h30, rfl⟩ := H 3 ⟨.guard, by simp, rfl⟩ _ rfl
    replace h30 := h30 _ rfl
    have HI := Lib.hid hi
    clear H F hi hL
    go_wp2_with fail
    exact hK _ _ (Below.refl _ _) HI.out rfl
  · intro L a wy Q' hL hi H F hK
    try dsimp only at hi
    obtain ⟨_, h36, rfl⟩ := H 9 ⟨.data, by simp, rfl⟩ _ rfl
    replace h36 := h36 _ rfl
    obtain ⟨_, h30, rfl⟩ := H 3 ⟨.guard, by simp, rfl⟩ _ rfl
    replace h30 := h30 _ rfl
    have HI := Lib.hid hi
    clear H F hi hL
    have kq0 : wy.cell? ⟨ss, 0, none⟩ = some (.map (some mb)) := (Whole.under HI.out HS.out (Whole.lt HS.out)).cell 0
    go_wp2_with fail
    exact hK _ _ (Below.refl _ _) HI.out rfl
  · intro L a wy Q' hL hi H F hK
    try dsimp only at hi
    obtain ⟨_, h30, rfl⟩ := H 3 ⟨.guard, by simp, rfl⟩ _ rfl
    replace h30 := h30 _ rfl
    have h11 : a.tmps[11]? = some (.pointer (some ⟨kb, 0, none⟩)) := F 11 rfl
    have HI := Lib.hid hi
    clear H F hi hL
    have kq0 : wy.cell? ⟨kb, 0, none⟩ = some (.int .i64 k.src) := (Whole.under HI.out HK.out (Whole.lt HK.out)).cell 0
    have kq1 : wy.cell? ⟨kb, 1, none⟩ = some (.int .i64 k.tgt) := (Whole.under HI.out HK.out (Whole.lt HK.out)).cell 1
    have kq2 : wy.cell? ⟨kb, 2, none⟩ = some (.int .i64 k.cls) := (Whole.under HI.out HK.out (Whole.lt HK.out)).cell 2
    have kq3 : wy.cell? ⟨kb, 3, none⟩ = some (.int .i64 k.cond) := (Whole.under HI.out HK.out (Whole.lt HK.out)).cell 3
    go_wp2_with fail
    exact hK _ _ (Below.refl _ _) HI.out rfl
  · intro L a wy Q' hL hi H F hK
    try dsimp only at hi
    obtain ⟨_, h37, rfl⟩ := H 10 ⟨.data, by simp, rfl⟩ _ rfl
    replace h37 := h37 _ rfl
    obtain ⟨_, h38, rfl⟩ := H 11 ⟨.data, by simp, rfl⟩ _ rfl
    replace h38 := h38 _ rfl
    obtain ⟨_, h30, rfl⟩ := H 3 ⟨.guard, by simp, rfl⟩ _ rfl
    replace h30 := h30 _ rfl
    have HI := Lib.hid hi
    clear H F hi hL
    have q := HL.out wy HI.out
    go_wp2_with fail
    exact hK _ _ (Below.refl _ _) HI.out rfl
  · intro L a wy Q' hL hi H F hK
    try dsimp only at hi
    obtain ⟨_, h39, rfl⟩ := H 12 ⟨.data, by simp, rfl⟩ _ rfl
    replace h39 := h39 _ rfl
    obtain ⟨_, h30, rfl⟩ := H 3 ⟨.guard, by simp, rfl⟩ _ rfl
    replace h30 := h30 _ rfl
    have HI := Lib.hid hi
    clear H F hi hL
    have q : ∀ W, (Instr.index 62 (.agg #[.int .u32 u.allow, .int .u32 u.audit, .int .u32 u.dont]) (.int .i64 0)).run Try.prog W = .ok (.int .u32 u.allow) W := fun W => by kernel_rfl
    go_wp2_with fail
    exact hK _ _ (Below.refl _ _) HI.out rfl
  · intro L a wy Q' hL hi H F hK
    try dsimp only at hi
    obtain ⟨_, h30, rfl⟩ := H 3 ⟨.guard, by simp, rfl⟩ _ rfl
    replace h30 := h30 _ rfl
    have h1 : a.tmps[1]? = some (.int .u32 pm) := F 1 rfl
    have HI := Lib.hid hi
    clear H F hi hL
    go_wp2_with fail
    exact hK _ _ (Below.refl _ _) HI.out rfl
  · intro L a wy Q' hL hi H F hK
    try dsimp only at hi
    obtain ⟨_, h40, rfl⟩ := H 13 ⟨.data, by simp, rfl⟩ _ rfl
    replace h40 := h40 _ rfl
    obtain ⟨_, h41, rfl⟩ := H 14 ⟨.data, by simp, rfl⟩ _ rfl
    replace h41 := h41 _ rfl
    obtain ⟨_, h30, rfl⟩ := H 3 ⟨.guard, by simp, rfl⟩ _ rfl
    replace h30 := h30 _ rfl
    have HI := Lib.hid hi
    clear H F hi hL
    go_wp2_with fail
    exact hK _ _ (Below.refl _ _) HI.out rfl
  · intro L a wy Q' hL hi H F hK
    try dsimp only at hi
    obtain ⟨_, h30, rfl⟩ := H 3 ⟨.guard, by simp, rfl⟩ _ rfl
    replace h30 := h30 _ rfl
    have h1 : a.tmps[1]? = some (.int .u32 pm) := F 1 rfl
    have HI := Lib.hid hi
    clear H F hi hL
    go_wp2_with fail
    exact hK _ _ (Below.refl _ _) HI.out rfl
  · intro L a wy Q' hL hi H F hK
    try dsimp only at hi
    obtain ⟨_, h42, rfl⟩ := H 15 ⟨.data, by simp, rfl⟩ _ rfl
    replace h42 := h42 _ rfl
    obtain ⟨_, h43, rfl⟩ := H 16 ⟨.data, by simp, rfl⟩ _ rfl
    replace h43 := h43 _ rfl
    obtain ⟨_, h30, rfl⟩ := H 3 ⟨.guard, by simp, rfl⟩ _ rfl
    replace h30 := h30 _ rfl
    have HI := Lib.hid hi
    clear H F hi hL
    go_wp2_with fail
    exact hK _ _ (Below.refl _ _) HI.out rfl
  · intro a wy L hl hi hL Q' hK
    try dsimp only at hi
    have HB := Lib.hid hi
    clear hi hL
    obtain ⟨_, rfl, _, rfl, _, rfl, _, rfl, _, rfl, _, rfl, _, rfl, _, rfl, _, rfl, _, rfl, _, rfl, _, rfl, _, rfl, _, rfl, _, rfl, _, rfl, _, rfl, _, rfl, rfl⟩ := hl
    simp only [List.setIfInBounds_toArray, List.set_cons_zero, List.set_cons_succ]
    go_wp2_with fail
    exact HEND.out _ _ _ _ _ _ _ _ _ _ _ _ _ _ _ _ _ _ _ HB.out
set_option maxRecDepth 100000 in
set_option maxHeartbeats 4000000 in
theorem ch7_39_f (w : World) (tb kb sa ss mb : Nat) (kv vv pa pb : Value) (pm : Int) (k : Key4) (u : AVec) (x2 x4 x5 x6 x7 x8 x9 x10 x12 x13 x14 x15 x16 x17 x18 x19 x20 x21 x22 x23 x24 x25 x26 x27 x28 x29 x30 x31 x32 x33 x34 x35 x36 x37 x38 x39 x40 x41 x42 x43 x44 x45 x46 x47 x48 x49 x50 x51 x52 x53 x54 x55 : Value) (_ : Hid (Whole w tb 51 #[.pointer (some ⟨sa, 0, none⟩), .pointer (some ⟨ss, 0, none⟩), vv])) (_ : Hid (Whole w ss 73 #[.map (some mb), kv])) (HK : Hid (Whole w kb 60 #[.int .i64 k.src, .int .i64 k.tgt, .int .i64 k.cls, .int .i64 k.cond])) (_ : Hid (∀ W, RowKit.Below w.heap.size w W → (Instr.lookup 70 (.map (some mb)) (.agg #[.int .i64 k.src, .int .i64 k.tgt, .int .i64 k.cls, .int .i64 k.cond]) false).run Try.prog W = .ok (.agg #[.int .u32 u.allow, .int .u32 u.audit, .int .u32 u.dont]) W)) (HC : Hid (∀ W, RowKit.Below w.heap.size w W → Calls Try.prog 39 #[.agg #[.int .i64 k.src, .int .i64 k.tgt, .int .i64 k.cls, .int .i64 k.cond], pa, pb] W fun e w' => e = .returned (.bool false) ∧ RowKit.Below W.heap.size W w'))
    {Q' : Exit → Act → World → Prop} (hend : ∀ (v27 v28 v29 v30 v31 v32 v33 v34 v35 v36 v37 v38 v39 v40 v41 v42 v43 v44 : Value) (w' : World), RowKit.Below w.heap.size w w' → Q' .normal ⟨#[.pointer (some ⟨tb, 0, none⟩), .int .u32 pm, x2, .func (.func 39) #[] #[pa, pb], x4, x5, x6, x7, x8, x9, x10, .pointer (some ⟨kb, 0, none⟩), x12, x13, x14, x15, x16, x17, x18, x19, x20, x21, x22, x23, x24, x25, x26, v27, v28, v29, v30, v31, v32, v33, v34, v35, v36, v37, v38, v39, v40, v41, v42, v43, v44, .bool false, x46, x47, x48, x49, x50, x51, x52, x53, x54, x55], []⟩ w') :
    Code.wp Try.prog (findRegion7 7 ((Try.f37.body).getD .skip)) Q' ⟨#[.pointer (some ⟨tb, 0, none⟩), .int .u32 pm, x2, .func (.func 39) #[] #[pa, pb], x4, x5, x6, x7, x8, x9, x10, .pointer (some ⟨kb, 0, none⟩), x12, x13, x14, x15, x16, x17, x18, x19, x20, x21, x22, x23, x24, x25, x26, x27, x28, x29, x30, x31, x32, x33, x34, x35, x36, x37, x38, x39, x40, x41, x42, x43, x44, x45, x46, x47, x48, x49, x50, x51, x52, x53, x54, x55], []⟩ w := by
  have HEND := Lib.hid hend
  clear hend
  conv => arg 2; whnf
  conv => arg 4; dsimp only
  refine wp_region_goods [some 27, some 28, some 29, some 30, some 31, some 32, some 33, some 34, some 35, some 36, some 37, some 38, some 39, some 40, some 41, some 42, some 43, some 44] [isW (.func (.func 39) #[] #[pa, pb]), isW (.agg #[.int .i64 k.src, .int .i64 k.tgt, .int .i64 k.cls, .int .i64 k.cond]), isW (.bool false), isW (.bool false), isW (undef), isW (undef), isW (undef), isW (undef), isW (undef), isW (undef), isW (undef), isW (undef), isW (undef), isW (undef), isW (undef), isW (undef), isW (undef), isW (undef)] (fun _ w' => RowKit.Below w.heap.size w w') [] (by kernel_rfl) (by kernel_rfl) (by kernel_rfl) rfl (by decide) rfl rfl ((Below.refl _ _).drew) ⟨lastsW_is _, lastsW_is _, lastsW_is _, lastsW_is _, lastsW_is _, lastsW_is _, lastsW_is _, lastsW_is _, lastsW_is _, lastsW_is _, lastsW_is _, lastsW_is _, lastsW_is _, lastsW_is _, lastsW_is _, lastsW_is _, lastsW_is _, lastsW_is _, trivial⟩ ⟨?_, ?_, ?_, ?_, ?_, ?_, ?_, ?_, ?_, ?_, ?_, ?_, ?_, ?_, ?_, ?_, ?_, ?_, ?_⟩
  · intro L a wy Q' hL hi H F hK
    try dsimp only at hi
    have h3 : a.tmps[3]? = some (.func (.func 39) #[] #[pa, pb]) := F 3 rfl
    have HI := Lib.hid hi
    clear H F hi hL
    go_wp2_with fail
    exact hK _ _ (Below.refl _ _) HI.out rfl
  · intro L a wy Q' hL hi H F hK
    try dsimp only at hi
    have h11 : a.tmps[11]? = some (.pointer (some ⟨kb, 0, none⟩)) := F 11 rfl
    have HI := Lib.hid hi
    clear H F hi hL
    have kq0 : wy.cell? ⟨kb, 0, none⟩ = some (.int .i64 k.src) := (Whole.under HI.out HK.out (Whole.lt HK.out)).cell 0
    have kq1 : wy.cell? ⟨kb, 1, none⟩ = some (.int .i64 k.tgt) := (Whole.under HI.out HK.out (Whole.lt HK.out)).cell 1
    have kq2 : wy.cell? ⟨kb, 2, none⟩ = some (.int .i64 k.cls) := (Whole.under HI.out HK.out (Whole.lt HK.out)).cell 2
    have kq3 : wy.cell? ⟨kb, 3, none⟩ = some (.int .i64 k.cond) := (Whole.under HI.out HK.out (Whole.lt HK.out)).cell 3
    go_wp2_with fail
    exact hK _ _ (Below.refl _ _) HI.out rfl
  · intro L a wy Q' hL hi H F hK
    try dsimp only at hi
    obtain ⟨_, h27, rfl⟩ := H 0 ⟨.data, by simp, rfl⟩ _ rfl
    replace h27 := h27 _ rfl
    obtain ⟨_, h28, rfl⟩ := H 1 ⟨.data, by simp, rfl⟩ _ rfl
    replace h28 := h28 _ rfl
    have HI := Lib.hid hi
    clear H F hi hL
    have HK := Lib.hid hK
    clear hK
    go_wp2_with (go_at_call 39; go_must (refine (HC.out wy HI.out).mono ?_; rintro e w1 ⟨rfl, hb1⟩))
    exact HK.out _ _ hb1 (HI.out.trans (hb1.mono HI.out.size)) rfl
  · intro L a wy Q' hL hi H F hK
    try dsimp only at hi
    obtain ⟨_, h29, rfl⟩ := H 2 ⟨.data, by simp, rfl⟩ _ rfl
    replace h29 := h29 _ rfl
    have HI := Lib.hid hi
    clear H F hi hL
    go_wp2_with fail
    exact hK _ _ (Below.refl _ _) HI.out rfl
  · intro L a wy Q' hL hi H F hK
    try dsimp only at hi
    obtain ⟨_, h30, rfl⟩ := H 3 ⟨.guard, by simp, rfl⟩ _ rfl
    replace h30 := h30 _ rfl
    have h0 : a.tmps[0]? = some (.pointer (some ⟨tb, 0, none⟩)) := F 0 rfl
    have HI := Lib.hid hi
    clear H F hi hL
    refine wpList_skip (by simp [Region.wanted, yielded, h30]) ?_
    exact hK _ _ (Below.refl _ _) HI.out rfl
  · intro L a wy Q' hL hi H F hK
    try dsimp only at hi
    obtain ⟨_, h31, rfl⟩ := H 4 ⟨.data, by simp, rfl⟩ _ rfl
    replace h31 := h31 _ rfl
    obtain ⟨_, h30, rfl⟩ := H 3 ⟨.guard, by simp, rfl⟩ _ rfl
    replace h30 := h30 _ rfl
    have HI := Lib.hid hi
    clear H F hi hL
    refine wpList_skip (by simp [Region.wanted, yielded, h30]) ?_
    exact hK _ _ (Below.refl _ _) HI.out rfl
  · intro L a wy Q' hL hi H F hK
    try dsimp only at hi
    obtain ⟨_, h32, rfl⟩ := H 5 ⟨.data, by simp, rfl⟩ _ rfl
    replace h32 := h32 _ rfl
    obtain ⟨_, h30, rfl⟩ := H 3 ⟨.guard, by simp, rfl⟩ _ rfl
    replace h30 := h30 _ rfl
    have HI := Lib.hid hi
    clear H F hi hL
    refine wpList_skip (by simp [Region.wanted, yielded, h30]) ?_
    exact hK _ _ (Below.refl _ _) HI.out rfl
  · intro L a wy Q' hL hi H F hK
    try dsimp only at hi
    obtain ⟨_, h33, rfl⟩ := H 6 ⟨.data, by simp, rfl⟩ _ rfl
    replace h33 := h33 _ rfl
    obtain ⟨_, h30, rfl⟩ := H 3 ⟨.guard, by simp, rfl⟩ _ rfl
    replace h30 := h30 _ rfl
    have HI := Lib.hid hi
    clear H F hi hL
    refine wpList_skip (by simp [Region.wanted, yielded, h30]) ?_
    exact hK _ _ (Below.refl _ _) HI.out rfl
  · intro L a wy Q' hL hi H F hK
    try dsimp only at hi
    obtain ⟨_, h34, rfl⟩ := H 7 ⟨.data, by simp, rfl⟩ _ rfl
    replace h34 := h34 _ rfl
    obtain ⟨_, h30, rfl⟩ := H 3 ⟨.guard, by simp, rfl⟩ _ rfl
    replace h30 := h30 _ rfl
    have HI := Lib.hid hi
    clear H F hi hL
    refine wpList_skip (by simp [Region.wanted, yielded, h30]) ?_
    exact hK _ _ (Below.refl _ _) HI.out rfl
  · intro L a wy Q' hL hi H F hK
    try dsimp only at hi
    obtain ⟨_, h35, rfl⟩ := H 8 ⟨.data, by simp, rfl⟩ _ rfl
    replace h35 := h35 _ rfl
    obtain ⟨_, h30, rfl⟩ := H 3 ⟨.guard, by simp, rfl⟩ _ rfl
    replace h30 := h30 _ rfl
    have HI := Lib.hid hi
    clear H F hi hL
    refine wpList_skip (by simp [Region.wanted, yielded, h30]) ?_
    exact hK _ _ (Below.refl _ _) HI.out rfl
  · intro L a wy Q' hL hi H F hK
    try dsimp only at hi
    obtain ⟨_, h36, rfl⟩ := H 9 ⟨.data, by simp, rfl⟩ _ rfl
    replace h36 := h36 _ rfl
    obtain ⟨_, h30, rfl⟩ := H 3 ⟨.guard, by simp, rfl⟩ _ rfl
    replace h30 := h30 _ rfl
    have HI := Lib.hid hi
    clear H F hi hL
    refine wpList_skip (by simp [Region.wanted, yielded, h30]) ?_
    exact hK _ _ (Below.refl _ _) HI.out rfl
  · intro L a wy Q' hL hi H F hK
    try dsimp only at hi
    obtain ⟨_, h30, rfl⟩ := H 3 ⟨.guard, by simp, rfl⟩ _ rfl
    replace h30 := h30 _ rfl
    have h11 : a.tmps[11]? = some (.pointer (some ⟨kb, 0, none⟩)) := F 11 rfl
    have HI := Lib.hid hi
    clear H F hi hL
    refine wpList_skip (by simp [Region.wanted, yielded, h30]) ?_
    exact hK _ _ (Below.refl _ _) HI.out rfl
  · intro L a wy Q' hL hi H F hK
    try dsimp only at hi
    obtain ⟨_, h37, rfl⟩ := H 10 ⟨.data, by simp, rfl⟩ _ rfl
    replace h37 := h37 _ rfl
    obtain ⟨_, h38, rfl⟩ := H 11 ⟨.data, by simp, rfl⟩ _ rfl
    replace h38 := h38 _ rfl
    obtain ⟨_, h30, rfl⟩ := H 3 ⟨.guard, by simp, rfl⟩ _ rfl
    replace h30 := h30 _ rfl
    have HI := Lib.hid hi
    clear H F hi hL
    refine wpList_skip (by simp [Region.wanted, yielded, h30]) ?_
    exact hK _ _ (Below.refl _ _) HI.out rfl
  · intro L a wy Q' hL hi H F hK
    try dsimp only at hi
    obtain ⟨_, h39, rfl⟩ := H 12 ⟨.data, by simp, rfl⟩ _ rfl
    replace h39 := h39 _ rfl
    obtain ⟨_, h30, rfl⟩ := H 3 ⟨.guard, by simp, rfl⟩ _ rfl
    replace h30 := h30 _ rfl
    have HI := Lib.hid hi
    clear H F hi hL
    refine wpList_skip (by simp [Region.wanted, yielded, h30]) ?_
    exact hK _ _ (Below.refl _ _) HI.out rfl
  · intro L a wy Q' hL hi H F hK
    try dsimp only at hi
    obtain ⟨_, h30, rfl⟩ := H 3 ⟨.guard, by simp, rfl⟩ _ rfl
    replace h30 := h30 _ rfl
    have h1 : a.tmps[1]? = some (.int .u32 pm) := F 1 rfl
    have HI := Lib.hid hi
    clear H F hi hL
    refine wpList_skip (by simp [Region.wanted, yielded, h30]) ?_
    exact hK _ _ (Below.refl _ _) HI.out rfl
  · intro L a wy Q' hL hi H F hK
    try dsimp only at hi
    obtain ⟨_, h40, rfl⟩ := H 13 ⟨.data, by simp, rfl⟩ _ rfl
    replace h40 := h40 _ rfl
    obtain ⟨_, h41, rfl⟩ := H 14 ⟨.data, by simp, rfl⟩ _ rfl
    replace h41 := h41 _ rfl
    obtain ⟨_, h30, rfl⟩ := H 3 ⟨.guard, by simp, rfl⟩ _ rfl
    replace h30 := h30 _ rfl
    have HI := Lib.hid hi
    clear H F hi hL
    refine wpList_skip (by simp [Region.wanted, yielded, h30]) ?_
    exact hK _ _ (Below.refl _ _) HI.out rfl
  · intro L a wy Q' hL hi H F hK
    try dsimp only at hi
    obtain ⟨_, h30, rfl⟩ := H 3 ⟨.guard, by simp, rfl⟩ _ rfl
    replace h30 := h30 _ rfl
    have h1 : a.tmps[1]? = some (.int .u32 pm) := F 1 rfl
    have HI := Lib.hid hi
    clear H F hi hL
    refine wpList_skip (by simp [Region.wanted, yielded, h30]) ?_
    exact hK _ _ (Below.refl _ _) HI.out rfl
  · intro L a wy Q' hL hi H F hK
    try dsimp only at hi
    obtain ⟨_, h42, rfl⟩ := H 15 ⟨.data, by simp, rfl⟩ _ rfl
    replace h42 := h42 _ rfl
    obtain ⟨_, h43, rfl⟩ := H 16 ⟨.data, by simp, rfl⟩ _ rfl
    replace h43 := h43 _ rfl
    obtain ⟨_, h30, rfl⟩ := H 3 ⟨.guard, by simp, rfl⟩ _ rfl
    replace h30 := h30 _ rfl
    have HI := Lib.hid hi
    clear H F hi hL
    refine wpList_skip (by simp [Region.wanted, yielded, h30]) ?_
    exact hK _ _ (Below.refl _ _) HI.out rfl
  · intro a wy L hl hi hL Q' hK
    try dsimp only at hi
    have HB := Lib.hid hi
    clear hi hL
    obtain ⟨_, rfl, _, rfl, _, rfl, _, rfl, _, rfl, _, rfl, _, rfl, _, rfl, _, rfl, _, rfl, _, rfl, _, rfl, _, rfl, _, rfl, _, rfl, _, rfl, _, rfl, _, rfl, rfl⟩ := hl
    simp only [List.setIfInBounds_toArray, List.set_cons_zero, List.set_cons_succ]
    go_wp2_with fail
    exact HEND.out _ _ _ _ _ _ _ _ _ _ _ _ _ _ _ _ _ _ _ HB.out
theorem targets1_0 (w : World) (k : Key4) (pb pc : Nat) (s c : Int) (HB : Hid (Whole w pb 3 #[.int .i64 s])) (HC : Hid (Whole w pc 3 #[.int .i64 c])) (HQ : Hid (¬ k.src = s)) :
    Calls Try.prog 38 #[.agg #[.int .i64 k.src, .int .i64 k.tgt, .int .i64 k.cls, .int .i64 k.cond], .pointer (some ⟨pb, 0, none⟩), .pointer (some ⟨pc, 0, none⟩)] w fun e w' => e = .returned (.bool false) ∧ RowKit.Below w.heap.size w w' := by
  obtain ⟨wo, hwo⟩ : ∃ wo, wo = w.alloc (.cells #[.int .i64 k.src, .int .i64 k.tgt, .int .i64 k.cls, .int .i64 k.cond] 60) := ⟨_, rfl⟩
  have HBO := Lib.hid (show RowKit.Below w.heap.size w wo by rw [hwo]; exact (Below.refl _ w).alloc (Nat.le_refl _) _)
  have HK0 := Lib.hid (show Whole wo w.heap.size 60 #[.int .i64 k.src, .int .i64 k.tgt, .int .i64 k.cls, .int .i64 k.cond] by rw [hwo]; exact Whole.new w 60 _)
  have kq0 : wo.cell? ⟨w.heap.size, 0, none⟩ = some (.int .i64 k.src) := HK0.out.cell 0
  have kq1 : wo.cell? ⟨w.heap.size, 1, none⟩ = some (.int .i64 k.tgt) := HK0.out.cell 1
  have kq2 : wo.cell? ⟨w.heap.size, 2, none⟩ = some (.int .i64 k.cls) := HK0.out.cell 2
  have kq3 : wo.cell? ⟨w.heap.size, 3, none⟩ = some (.int .i64 k.cond) := HK0.out.cell 3
  have b0 : wo.cell? ⟨pb, 0, none⟩ = some (.int .i64 s) := (Whole.under HBO.out HB.out HB.out.lt).cell 0
  have c0 : wo.cell? ⟨pc, 0, none⟩ = some (.int .i64 c) := (Whole.under HBO.out HC.out HC.out.lt).cell 0
  go_enter Try.func38, Try.ntmps38
  go_upto_region 1 with fail
  rw [← hwo]
  clear hwo
  have h0 : (k.src == s) = false := by simpa using HQ.out
  go_wp2
  go_ret
  exact ⟨ret_val rfl, HBO.out⟩
theorem targets1_1 (w : World) (k : Key4) (pb pc : Nat) (s c : Int) (HB : Hid (Whole w pb 3 #[.int .i64 s])) (HC : Hid (Whole w pc 3 #[.int .i64 c])) (HQ : Hid (k.src = s ∧ ¬ k.cls = c)) :
    Calls Try.prog 38 #[.agg #[.int .i64 k.src, .int .i64 k.tgt, .int .i64 k.cls, .int .i64 k.cond], .pointer (some ⟨pb, 0, none⟩), .pointer (some ⟨pc, 0, none⟩)] w fun e w' => e = .returned (.bool false) ∧ RowKit.Below w.heap.size w w' := by
  obtain ⟨wo, hwo⟩ : ∃ wo, wo = w.alloc (.cells #[.int .i64 k.src, .int .i64 k.tgt, .int .i64 k.cls, .int .i64 k.cond] 60) := ⟨_, rfl⟩
  have HBO := Lib.hid (show RowKit.Below w.heap.size w wo by rw [hwo]; exact (Below.refl _ w).alloc (Nat.le_refl _) _)
  have HK0 := Lib.hid (show Whole wo w.heap.size 60 #[.int .i64 k.src, .int .i64 k.tgt, .int .i64 k.cls, .int .i64 k.cond] by rw [hwo]; exact Whole.new w 60 _)
  have kq0 : wo.cell? ⟨w.heap.size, 0, none⟩ = some (.int .i64 k.src) := HK0.out.cell 0
  have kq1 : wo.cell? ⟨w.heap.size, 1, none⟩ = some (.int .i64 k.tgt) := HK0.out.cell 1
  have kq2 : wo.cell? ⟨w.heap.size, 2, none⟩ = some (.int .i64 k.cls) := HK0.out.cell 2
  have kq3 : wo.cell? ⟨w.heap.size, 3, none⟩ = some (.int .i64 k.cond) := HK0.out.cell 3
  have b0 : wo.cell? ⟨pb, 0, none⟩ = some (.int .i64 s) := (Whole.under HBO.out HB.out HB.out.lt).cell 0
  have c0 : wo.cell? ⟨pc, 0, none⟩ = some (.int .i64 c) := (Whole.under HBO.out HC.out HC.out.lt).cell 0
  go_enter Try.func38, Try.ntmps38
  go_upto_region 1 with fail
  rw [← hwo]
  clear hwo
  have h0 : (k.src == s) = true := by simpa using HQ.out.1
  have h1 : (k.cls == c) = false := by simpa using HQ.out.2
  go_wp2
  go_ret
  exact ⟨ret_val rfl, HBO.out⟩
theorem targets1_2 (w : World) (k : Key4) (pb pc : Nat) (s c : Int) (HB : Hid (Whole w pb 3 #[.int .i64 s])) (HC : Hid (Whole w pc 3 #[.int .i64 c])) (HQ : Hid (k.src = s ∧ k.cls = c)) :
    Calls Try.prog 38 #[.agg #[.int .i64 k.src, .int .i64 k.tgt, .int .i64 k.cls, .int .i64 k.cond], .pointer (some ⟨pb, 0, none⟩), .pointer (some ⟨pc, 0, none⟩)] w fun e w' => e = .returned (.bool true) ∧ RowKit.Below w.heap.size w w' := by
  obtain ⟨wo, hwo⟩ : ∃ wo, wo = w.alloc (.cells #[.int .i64 k.src, .int .i64 k.tgt, .int .i64 k.cls, .int .i64 k.cond] 60) := ⟨_, rfl⟩
  have HBO := Lib.hid (show RowKit.Below w.heap.size w wo by rw [hwo]; exact (Below.refl _ w).alloc (Nat.le_refl _) _)
  have HK0 := Lib.hid (show Whole wo w.heap.size 60 #[.int .i64 k.src, .int .i64 k.tgt, .int .i64 k.cls, .int .i64 k.cond] by rw [hwo]; exact Whole.new w 60 _)
  have kq0 : wo.cell? ⟨w.heap.size, 0, none⟩ = some (.int .i64 k.src) := HK0.out.cell 0
  have kq1 : wo.cell? ⟨w.heap.size, 1, none⟩ = some (.int .i64 k.tgt) := HK0.out.cell 1
  have kq2 : wo.cell? ⟨w.heap.size, 2, none⟩ = some (.int .i64 k.cls) := HK0.out.cell 2
  have kq3 : wo.cell? ⟨w.heap.size, 3, none⟩ = some (.int .i64 k.cond) := HK0.out.cell 3
  have b0 : wo.cell? ⟨pb, 0, none⟩ = some (.int .i64 s) := (Whole.under HBO.out HB.out HB.out.lt).cell 0
  have c0 : wo.cell? ⟨pc, 0, none⟩ = some (.int .i64 c) := (Whole.under HBO.out HC.out HC.out.lt).cell 0
  go_enter Try.func38, Try.ntmps38
  go_upto_region 1 with fail
  rw [← hwo]
  clear hwo
  have h0 : (k.src == s) = true := by simpa using HQ.out.1
  have h1 : (k.cls == c) = true := by simpa using HQ.out.2
  go_wp2
  go_ret
  exact ⟨ret_val rfl, HBO.out⟩
theorem targets1_any (w : World) (k : Key4) (pb pc : Nat) (s c : Int) (HB : Whole w pb 3 #[.int .i64 s]) (HC : Whole w pc 3 #[.int .i64 c]) :
    Calls Try.prog 38 #[.agg #[.int .i64 k.src, .int .i64 k.tgt, .int .i64 k.cls, .int .i64 k.cond], .pointer (some ⟨pb, 0, none⟩), .pointer (some ⟨pc, 0, none⟩)] w fun e w' => e = .returned (.bool (decide (k.src = s ∧ k.cls = c))) ∧ RowKit.Below w.heap.size w w' := by
  by_cases h0 : k.src = s
  · by_cases h1 : k.cls = c
    · rw [decide_eq_true ⟨h0, h1⟩]
      exact targets1_2 w k pb pc s c (Lib.hid HB) (Lib.hid HC) (Lib.hid ⟨h0, h1⟩)
    · rw [decide_eq_false fun e => h1 e.2]
      exact targets1_1 w k pb pc s c (Lib.hid HB) (Lib.hid HC) (Lib.hid ⟨h0, h1⟩)
  · rw [decide_eq_false fun e => h0 e.1]
    exact targets1_0 w k pb pc s c (Lib.hid HB) (Lib.hid HC) (Lib.hid h0)
/-- What targets lists, ahead of the sort. -/
def targetsL (S : List AEntry) (s c pm : Int) : List Int := (S.filter fun e => decide (e.src = s ∧ e.cls = c) && (bits .and .u32 e.allow pm == pm)).map AEntry.tgt
theorem targetsL_snoc (S : List AEntry) (y : AEntry) (s c pm : Int) : targetsL (S ++ [y]) s c pm = if (decide (y.src = s ∧ y.cls = c) && (bits .and .u32 y.allow pm == pm)) = true then targetsL S s c pm ++ [y.tgt] else targetsL S s c pm := by
  unfold targetsL
  rw [List.filter_append, List.map_append, filter_one]
  by_cases h : (decide (y.src = s ∧ y.cls = c) && (bits .and .u32 y.allow pm == pm)) = true
  · rw [if_pos h, if_pos h]
    rfl
  · rw [if_neg h, if_neg h]
    simp
theorem targetsL_len (S : List AEntry) (s c pm : Int) : (targetsL S s c pm).length ≤ S.length := by
  unfold targetsL
  rw [List.length_map]
  exact List.length_filter_le _ _
set_option maxRecDepth 100000 in
set_option maxHeartbeats 4000000 in
theorem targetsc_any (w : World) (base tb pb pc : Nat) (S A0 : List AEntry) (vals : List Bool) (s c pm : Int) (h : TabAt w base tb A0 S vals) (hlen : S.length ≤ 100000) (hpb : Whole w pb 3 #[.int .i64 s]) (hpc : Whole w pc 3 #[.int .i64 c]) :
    Calls Try.prog 37 #[.pointer (some ⟨tb, 0, none⟩), .int .u32 pm, .int .i64 1, .func (.func 38) #[] #[.pointer (some ⟨pb, 0, none⟩), .pointer (some ⟨pc, 0, none⟩)]] w fun e w' => ∃ v, e = .returned v ∧ w'.ownsRow w.heap.size 3 1 v (targetsL S s c pm).length (((targetsL S s c pm).mergeSort fun x y => decide (x ≤ y)).map anInt) ∧ RowKit.Below w.heap.size w w' := by
  obtain ⟨i0, z0, hi0, hz0, hz1, hz2, hzs⟩ := infoOf info3
  obtain ⟨sa, ss, vv, hT, hA, hB, hV⟩ := h.ex
  obtain ⟨mb, kv, hS, hM, hO, -, -⟩ := hB.ex
  obtain ⟨n, hn⟩ : ∃ n, n = S.length := ⟨_, rfl⟩
  have hsl := SliceAt.of_own hO (flat_one _)
  rw [← hn] at hsl hlen
  obtain ⟨ka, kc, rfl, hkc, hkm, hcell⟩ := hsl.form (by decide)
  have HMD := Lib.hid (made_any w tb sa _ _ hT)
  have HN := Lib.hid hn
  have HCL := Lib.hid hcell
  have HT := Lib.hid hT
  have HS := Lib.hid hS
  have HM := Lib.hid hM
  have HORD := Lib.hid hB.ord
  have HOK := Lib.hid hB.ok
  have HLEN := Lib.hid hlen
  have HPB := Lib.hid hpb
  have HPC := Lib.hid hpc
  have t1 : w.cell? ⟨tb, 1, none⟩ = some (.pointer (some ⟨ss, 0, none⟩)) := hT.cell 1
  have k1 : w.cell? ⟨ss, 1, none⟩ = some (.slice ka n kc) := hS.cell 1
  clear h hsl hcell hn hS hM hO hT hA hB hV hpb hpc
  go_enter Try.func37, Try.ntmps37
  go_wp2_with (go_at_call 34; go_must (refine HMD.out.mono ?_; rintro e w1 ⟨rfl, rfl⟩))
  clear k1 t1
  go_loopw [23, 9] (fun i u wr => ∃ m : Nat, m ≤ n ∧ i = .int .i64 m ∧ wr.ownsRow w.heap.size 3 1 u (targetsL (S.take m) s c pm).length ((targetsL (S.take m) s c pm).map anInt) ∧ RowKit.Below w.heap.size w wr) (fun i _ _ => n - (intOf i).toNat)
  case atStart => exact ⟨0, Nat.zero_le _, rfl, by simpa [targetsL] using World.ownsRow_nil _ _ _ _, Below.refl _ _⟩
  case round =>
    obtain ⟨m, hm, rfl, hOr, hBr⟩ := hrel
    obtain ⟨p, hp⟩ : ∃ p, p = (targetsL (S.take m) s c pm).length := ⟨_, rfl⟩
    rw [← hp] at hOr
    obtain ⟨oa, oc, rfl⟩ := own_shape hOr
    have HOr := Lib.hid hOr
    have HBr := Lib.hid hBr
    have HPL := Lib.hid (show p ≤ 100000 by rw [hp]; have := targetsL_len (S.take m) s c pm; have h3 : (S.take m).length ≤ S.length := by {rw [List.length_take]; omega}; have := HN.out; omega)
    have HPP := Lib.hid hp
    clear hOr hBr hp
    by_cases hlt : m < n
    · obtain ⟨y, hy⟩ : ∃ y, S[m]? = some y := ⟨_, List.getElem?_eq_getElem (by rw [← HN.out]; exact hlt)⟩
      obtain ⟨b, off, rfl, hcl⟩ := HCL.out m hlt
      have hk0 : wr.cell? ⟨b, off + m * 4, none⟩ = some (.int .i64 y.key.src) := cell_later HBr.out (flat_cell hcl (by rw [List.getElem?_map, hy]; rfl) 0 _ rfl)
      have hk1 : wr.cell? ⟨b, off + m * 4 + 1, none⟩ = some (.int .i64 y.key.tgt) := cell_later HBr.out (flat_cell hcl (by rw [List.getElem?_map, hy]; rfl) 1 _ rfl)
      have hk2 : wr.cell? ⟨b, off + m * 4 + 2, none⟩ = some (.int .i64 y.key.cls) := cell_later HBr.out (flat_cell hcl (by rw [List.getElem?_map, hy]; rfl) 2 _ rfl)
      have hk3 : wr.cell? ⟨b, off + m * 4 + 3, none⟩ = some (.int .i64 y.key.cond) := cell_later HBr.out (flat_cell hcl (by rw [List.getElem?_map, hy]; rfl) 3 _ rfl)
      have HY := Lib.hid hy
      have HYO := Lib.hid (HOK.out y (at_mem hy))
      have HTK := Lib.hid (show S.take (m + 1) = S.take m ++ [y] from take_snoc hy)
      have HNX := Lib.hid (targetsL_snoc (S.take m) y s c pm)
      clear hcl hy
      go_upto_region 7 with (refine wpList_store_blk rfl 60 _ _ rfl wr.heap.size 0 (.agg #[.int .i64 y.key.src, .int .i64 y.key.tgt, .int .i64 y.key.cls, .int .i64 y.key.cond]) rfl rfl 60 _ (Whole.new wr 60 _) (by simp [Value.cells]) size60 rfl ?_; intro w3 S3 W3; rw [splice_all _ _ (by rfl)] at W3; have HS3 := Lib.hid S3; have HW3 := Lib.hid (show Whole w3 wr.heap.size 60 #[.int .i64 y.key.src, .int .i64 y.key.tgt, .int .i64 y.key.cls, .int .i64 y.key.cond] from W3); clear S3 W3)
      clear hk0 hk1 hk2 hk3
      have HB3 := Lib.hid (show RowKit.Below wr.heap.size wr w3 from ((Below.refl _ wr).alloc (Nat.le_refl _) _).trans (HS3.out.below (Nat.le_refl _)))
      have HBw3 := Lib.hid (HBr.out.trans (HB3.out.mono HBr.out.size))
      have HO3 := Lib.hid (own_keep HB3.out HOr.out (Nat.le_refl _))
      by_cases hq : y.src = s ∧ y.cls = c
      · have HQ := Lib.hid (show decide (y.key.src = s ∧ y.key.cls = c) = true from decide_eq_true hq)
        have hqd : decide (y.src = s ∧ y.cls = c) = true := decide_eq_true hq
        rw [hqd, Bool.true_and] at HNX
        clear hq hqd
        refine ch7_38_t w3 tb wr.heap.size sa ss mb (.slice (some ⟨b, off, none⟩) n kc) vv (.pointer (some ⟨pb, 0, none⟩)) (.pointer (some ⟨pc, 0, none⟩)) pm y.key y.vecs _ _ _ _ _ _ _ _ _ _ _ _ _ _ _ _ _ _ _ _ _ _ _ _ _ _ _ _ _ _ _ _ _ _ _ _ _ _ _ _ _ _ _ _ _ _ _ _ _ _ _ _ (Lib.hid (Whole.under HBw3.out HT.out HT.out.lt)) (Lib.hid (Whole.under HBw3.out HS.out HS.out.lt)) HW3 (Lib.hid fun W hW => by
          have h := store_look ((HM.out.kept (HBw3.out.block _ HM.out.lt)).kept (hW.block _ (Nat.lt_of_lt_of_le HM.out.lt HBw3.out.size))) HORD.out HYO.out.1
          rwa [lookV_at HORD.out HY.out rfl] at h) (Lib.hid fun W hW => by
          have hbw := HBw3.out.trans (hW.mono HBw3.out.size)
          have h := targets1_any W y.key pb pc s c (Whole.under hbw HPB.out HPB.out.lt) (Whole.under hbw HPC.out HPC.out.lt)
          rwa [HQ.out] at h) ?_
        intro v27 v28 v29 v30 v31 v32 v33 v34 v35 v36 v37 v38 v39 v40 v41 v42 v43 v44 w5 hb5
        have HBw5 := Lib.hid (HBw3.out.trans (hb5.mono HBw3.out.size))
        have HO5 := Lib.hid (own_keep hb5 HO3.out (Nat.le_refl _))
        have HK5 := Lib.hid (Whole.under hb5 HW3.out HW3.out.lt)
        clear hb5
        by_cases hz : (bits .and .u32 y.allow pm == pm) = true
        · have hz' : (bits .and .u32 y.vecs.allow pm == pm) = true := hz
          rw [if_pos hz] at HNX
          clear hz
          have kq : w5.cell? ⟨wr.heap.size, 1, none⟩ = some (.int .i64 y.key.tgt) := HK5.out.cell 1
          go_wp2_with (at_builtin; go_must (refine wpList_append_own _ rfl _ _ 53 rfl w.heap.size 3 i0 z0 1 8 Try.underlying53 hi0 hz0 hz1 hz2 hzs (by decide) _ _ _ rfl (own_alloc HO5.out _) ⟨w5.heap.size, 0, none⟩ 1 1 [.int .i64 y.key.tgt] rfl rfl (row_new _ _ _) ?c2 ?c3 ?c4 ?c5 ?_))
          case c2 => simp [Value.oneCell']
          case c3 => have := HPL.out; unfold maxLen; omega
          case c4 => have := HPL.out; omega
          case c5 => have := HBw5.out.size; simp; omega
          intro u9 w9 ho9 hg9 hn9
          have HB9 := Lib.hid ((HBw5.out.alloc HBw5.out.size _).grown hg9 (by have := HBw5.out.size; simp; omega) (fun q hq => (HO5.out.lt q hq).1))
          have HO9 := Lib.hid ho9
          clear hg9 hn9 ho9 kq
          go_wp2_with fail
          go_roundw
          case rel => exact ⟨m + 1, by omega, by go_num, by rw [HTK.out, HNX.out, List.length_append, List.map_append, ← HPP.out]; exact HO9.out, HB9.out⟩
          case measure => simp [intOf]; omega
        · have hz' : (bits .and .u32 y.vecs.allow pm == pm) = false := Bool.eq_false_iff.2 hz
          rw [if_neg hz] at HNX
          clear hz
          go_wp2_with fail
          go_roundw
          case rel => exact ⟨m + 1, by omega, by go_num, by rw [HTK.out, HNX.out, ← HPP.out]; exact HO5.out, HBw5.out⟩
          case measure => simp [intOf]; omega
      · have HQ := Lib.hid (show decide (y.key.src = s ∧ y.key.cls = c) = false from decide_eq_false hq)
        have hqd : decide (y.src = s ∧ y.cls = c) = false := decide_eq_false hq
        rw [hqd, Bool.false_and, if_neg (by simp)] at HNX
        clear hq hqd
        refine ch7_38_f w3 tb wr.heap.size sa ss mb (.slice (some ⟨b, off, none⟩) n kc) vv (.pointer (some ⟨pb, 0, none⟩)) (.pointer (some ⟨pc, 0, none⟩)) pm y.key y.vecs _ _ _ _ _ _ _ _ _ _ _ _ _ _ _ _ _ _ _ _ _ _ _ _ _ _ _ _ _ _ _ _ _ _ _ _ _ _ _ _ _ _ _ _ _ _ _ _ _ _ _ _ (Lib.hid (Whole.under HBw3.out HT.out HT.out.lt)) (Lib.hid (Whole.under HBw3.out HS.out HS.out.lt)) HW3 (Lib.hid fun W hW => by
          have h := store_look ((HM.out.kept (HBw3.out.block _ HM.out.lt)).kept (hW.block _ (Nat.lt_of_lt_of_le HM.out.lt HBw3.out.size))) HORD.out HYO.out.1
          rwa [lookV_at HORD.out HY.out rfl] at h) (Lib.hid fun W hW => by
          have hbw := HBw3.out.trans (hW.mono HBw3.out.size)
          have h := targets1_any W y.key pb pc s c (Whole.under hbw HPB.out HPB.out.lt) (Whole.under hbw HPC.out HPC.out.lt)
          rwa [HQ.out] at h) ?_
        intro v27 v28 v29 v30 v31 v32 v33 v34 v35 v36 v37 v38 v39 v40 v41 v42 v43 v44 w5 hb5
        have HBw5 := Lib.hid (HBw3.out.trans (hb5.mono HBw3.out.size))
        have HO5 := Lib.hid (own_keep hb5 HO3.out (Nat.le_refl _))
        have HK5 := Lib.hid (Whole.under hb5 HW3.out HW3.out.lt)
        clear hb5
        go_wp2_with fail
        go_roundw
        case rel => exact ⟨m + 1, by omega, by go_num, by rw [HTK.out, HNX.out, ← HPP.out]; exact HO5.out, HBw5.out⟩
        case measure => simp [intOf]; omega
    · obtain rfl : m = n := by omega
      have hfull : S.take m = S := List.take_of_length_le (by rw [HN.out]; exact Nat.le_refl _)
      rw [hfull] at HOr HPP
      clear hfull
      have HSR := Lib.hid (sort_any wr w.heap.size (.slice oa p oc) (targetsL S s c pm) (by rw [← HPP.out]; exact HOr.out) (by rw [← HPP.out]; have := HPL.out; omega))
      go_wp2_with (go_at_call 43; go_must (refine HSR.out.mono ?_; rintro e w1 ⟨rfl, ho, hg⟩; have HO1 := Lib.hid ho; have HG1 := Lib.hid hg; clear ho hg))
      go_ret
      exact ⟨_, ret_val rfl, HO1.out, HBr.out.grown HG1.out HBr.out.size (fun q hq => (HOr.out.lt q hq).1)⟩
theorem sources1_0 (w : World) (k : Key4) (pb pc : Nat) (s c : Int) (HB : Hid (Whole w pb 3 #[.int .i64 s])) (HC : Hid (Whole w pc 3 #[.int .i64 c])) (HQ : Hid (¬ k.tgt = s)) :
    Calls Try.prog 39 #[.agg #[.int .i64 k.src, .int .i64 k.tgt, .int .i64 k.cls, .int .i64 k.cond], .pointer (some ⟨pb, 0, none⟩), .pointer (some ⟨pc, 0, none⟩)] w fun e w' => e = .returned (.bool false) ∧ RowKit.Below w.heap.size w w' := by
  obtain ⟨wo, hwo⟩ : ∃ wo, wo = w.alloc (.cells #[.int .i64 k.src, .int .i64 k.tgt, .int .i64 k.cls, .int .i64 k.cond] 60) := ⟨_, rfl⟩
  have HBO := Lib.hid (show RowKit.Below w.heap.size w wo by rw [hwo]; exact (Below.refl _ w).alloc (Nat.le_refl _) _)
  have HK0 := Lib.hid (show Whole wo w.heap.size 60 #[.int .i64 k.src, .int .i64 k.tgt, .int .i64 k.cls, .int .i64 k.cond] by rw [hwo]; exact Whole.new w 60 _)
  have kq0 : wo.cell? ⟨w.heap.size, 0, none⟩ = some (.int .i64 k.src) := HK0.out.cell 0
  have kq1 : wo.cell? ⟨w.heap.size, 1, none⟩ = some (.int .i64 k.tgt) := HK0.out.cell 1
  have kq2 : wo.cell? ⟨w.heap.size, 2, none⟩ = some (.int .i64 k.cls) := HK0.out.cell 2
  have kq3 : wo.cell? ⟨w.heap.size, 3, none⟩ = some (.int .i64 k.cond) := HK0.out.cell 3
  have b0 : wo.cell? ⟨pb, 0, none⟩ = some (.int .i64 s) := (Whole.under HBO.out HB.out HB.out.lt).cell 0
  have c0 : wo.cell? ⟨pc, 0, none⟩ = some (.int .i64 c) := (Whole.under HBO.out HC.out HC.out.lt).cell 0
  go_enter Try.func39, Try.ntmps39
  go_upto_region 1 with fail
  rw [← hwo]
  clear hwo
  have h0 : (k.tgt == s) = false := by simpa using HQ.out
  go_wp2
  go_ret
  exact ⟨ret_val rfl, HBO.out⟩
theorem sources1_1 (w : World) (k : Key4) (pb pc : Nat) (s c : Int) (HB : Hid (Whole w pb 3 #[.int .i64 s])) (HC : Hid (Whole w pc 3 #[.int .i64 c])) (HQ : Hid (k.tgt = s ∧ ¬ k.cls = c)) :
    Calls Try.prog 39 #[.agg #[.int .i64 k.src, .int .i64 k.tgt, .int .i64 k.cls, .int .i64 k.cond], .pointer (some ⟨pb, 0, none⟩), .pointer (some ⟨pc, 0, none⟩)] w fun e w' => e = .returned (.bool false) ∧ RowKit.Below w.heap.size w w' := by
  obtain ⟨wo, hwo⟩ : ∃ wo, wo = w.alloc (.cells #[.int .i64 k.src, .int .i64 k.tgt, .int .i64 k.cls, .int .i64 k.cond] 60) := ⟨_, rfl⟩
  have HBO := Lib.hid (show RowKit.Below w.heap.size w wo by rw [hwo]; exact (Below.refl _ w).alloc (Nat.le_refl _) _)
  have HK0 := Lib.hid (show Whole wo w.heap.size 60 #[.int .i64 k.src, .int .i64 k.tgt, .int .i64 k.cls, .int .i64 k.cond] by rw [hwo]; exact Whole.new w 60 _)
  have kq0 : wo.cell? ⟨w.heap.size, 0, none⟩ = some (.int .i64 k.src) := HK0.out.cell 0
  have kq1 : wo.cell? ⟨w.heap.size, 1, none⟩ = some (.int .i64 k.tgt) := HK0.out.cell 1
  have kq2 : wo.cell? ⟨w.heap.size, 2, none⟩ = some (.int .i64 k.cls) := HK0.out.cell 2
  have kq3 : wo.cell? ⟨w.heap.size, 3, none⟩ = some (.int .i64 k.cond) := HK0.out.cell 3
  have b0 : wo.cell? ⟨pb, 0, none⟩ = some (.int .i64 s) := (Whole.under HBO.out HB.out HB.out.lt).cell 0
  have c0 : wo.cell? ⟨pc, 0, none⟩ = some (.int .i64 c) := (Whole.under HBO.out HC.out HC.out.lt).cell 0
  go_enter Try.func39, Try.ntmps39
  go_upto_region 1 with fail
  rw [← hwo]
  clear hwo
  have h0 : (k.tgt == s) = true := by simpa using HQ.out.1
  have h1 : (k.cls == c) = false := by simpa using HQ.out.2
  go_wp2
  go_ret
  exact ⟨ret_val rfl, HBO.out⟩
theorem sources1_2 (w : World) (k : Key4) (pb pc : Nat) (s c : Int) (HB : Hid (Whole w pb 3 #[.int .i64 s])) (HC : Hid (Whole w pc 3 #[.int .i64 c])) (HQ : Hid (k.tgt = s ∧ k.cls = c)) :
    Calls Try.prog 39 #[.agg #[.int .i64 k.src, .int .i64 k.tgt, .int .i64 k.cls, .int .i64 k.cond], .pointer (some ⟨pb, 0, none⟩), .pointer (some ⟨pc, 0, none⟩)] w fun e w' => e = .returned (.bool true) ∧ RowKit.Below w.heap.size w w' := by
  obtain ⟨wo, hwo⟩ : ∃ wo, wo = w.alloc (.cells #[.int .i64 k.src, .int .i64 k.tgt, .int .i64 k.cls, .int .i64 k.cond] 60) := ⟨_, rfl⟩
  have HBO := Lib.hid (show RowKit.Below w.heap.size w wo by rw [hwo]; exact (Below.refl _ w).alloc (Nat.le_refl _) _)
  have HK0 := Lib.hid (show Whole wo w.heap.size 60 #[.int .i64 k.src, .int .i64 k.tgt, .int .i64 k.cls, .int .i64 k.cond] by rw [hwo]; exact Whole.new w 60 _)
  have kq0 : wo.cell? ⟨w.heap.size, 0, none⟩ = some (.int .i64 k.src) := HK0.out.cell 0
  have kq1 : wo.cell? ⟨w.heap.size, 1, none⟩ = some (.int .i64 k.tgt) := HK0.out.cell 1
  have kq2 : wo.cell? ⟨w.heap.size, 2, none⟩ = some (.int .i64 k.cls) := HK0.out.cell 2
  have kq3 : wo.cell? ⟨w.heap.size, 3, none⟩ = some (.int .i64 k.cond) := HK0.out.cell 3
  have b0 : wo.cell? ⟨pb, 0, none⟩ = some (.int .i64 s) := (Whole.under HBO.out HB.out HB.out.lt).cell 0
  have c0 : wo.cell? ⟨pc, 0, none⟩ = some (.int .i64 c) := (Whole.under HBO.out HC.out HC.out.lt).cell 0
  go_enter Try.func39, Try.ntmps39
  go_upto_region 1 with fail
  rw [← hwo]
  clear hwo
  have h0 : (k.tgt == s) = true := by simpa using HQ.out.1
  have h1 : (k.cls == c) = true := by simpa using HQ.out.2
  go_wp2
  go_ret
  exact ⟨ret_val rfl, HBO.out⟩
theorem sources1_any (w : World) (k : Key4) (pb pc : Nat) (s c : Int) (HB : Whole w pb 3 #[.int .i64 s]) (HC : Whole w pc 3 #[.int .i64 c]) :
    Calls Try.prog 39 #[.agg #[.int .i64 k.src, .int .i64 k.tgt, .int .i64 k.cls, .int .i64 k.cond], .pointer (some ⟨pb, 0, none⟩), .pointer (some ⟨pc, 0, none⟩)] w fun e w' => e = .returned (.bool (decide (k.tgt = s ∧ k.cls = c))) ∧ RowKit.Below w.heap.size w w' := by
  by_cases h0 : k.tgt = s
  · by_cases h1 : k.cls = c
    · rw [decide_eq_true ⟨h0, h1⟩]
      exact sources1_2 w k pb pc s c (Lib.hid HB) (Lib.hid HC) (Lib.hid ⟨h0, h1⟩)
    · rw [decide_eq_false fun e => h1 e.2]
      exact sources1_1 w k pb pc s c (Lib.hid HB) (Lib.hid HC) (Lib.hid ⟨h0, h1⟩)
  · rw [decide_eq_false fun e => h0 e.1]
    exact sources1_0 w k pb pc s c (Lib.hid HB) (Lib.hid HC) (Lib.hid h0)
/-- What sources lists, ahead of the sort. -/
def sourcesL (S : List AEntry) (s c pm : Int) : List Int := (S.filter fun e => decide (e.tgt = s ∧ e.cls = c) && (bits .and .u32 e.allow pm == pm)).map AEntry.src
theorem sourcesL_snoc (S : List AEntry) (y : AEntry) (s c pm : Int) : sourcesL (S ++ [y]) s c pm = if (decide (y.tgt = s ∧ y.cls = c) && (bits .and .u32 y.allow pm == pm)) = true then sourcesL S s c pm ++ [y.src] else sourcesL S s c pm := by
  unfold sourcesL
  rw [List.filter_append, List.map_append, filter_one]
  by_cases h : (decide (y.tgt = s ∧ y.cls = c) && (bits .and .u32 y.allow pm == pm)) = true
  · rw [if_pos h, if_pos h]
    rfl
  · rw [if_neg h, if_neg h]
    simp
theorem sourcesL_len (S : List AEntry) (s c pm : Int) : (sourcesL S s c pm).length ≤ S.length := by
  unfold sourcesL
  rw [List.length_map]
  exact List.length_filter_le _ _
set_option maxRecDepth 100000 in
set_option maxHeartbeats 4000000 in
theorem sourcesc_any (w : World) (base tb pb pc : Nat) (S A0 : List AEntry) (vals : List Bool) (s c pm : Int) (h : TabAt w base tb A0 S vals) (hlen : S.length ≤ 100000) (hpb : Whole w pb 3 #[.int .i64 s]) (hpc : Whole w pc 3 #[.int .i64 c]) :
    Calls Try.prog 37 #[.pointer (some ⟨tb, 0, none⟩), .int .u32 pm, .int .i64 0, .func (.func 39) #[] #[.pointer (some ⟨pb, 0, none⟩), .pointer (some ⟨pc, 0, none⟩)]] w fun e w' => ∃ v, e = .returned v ∧ w'.ownsRow w.heap.size 3 1 v (sourcesL S s c pm).length (((sourcesL S s c pm).mergeSort fun x y => decide (x ≤ y)).map anInt) ∧ RowKit.Below w.heap.size w w' := by
  obtain ⟨i0, z0, hi0, hz0, hz1, hz2, hzs⟩ := infoOf info3
  obtain ⟨sa, ss, vv, hT, hA, hB, hV⟩ := h.ex
  obtain ⟨mb, kv, hS, hM, hO, -, -⟩ := hB.ex
  obtain ⟨n, hn⟩ : ∃ n, n = S.length := ⟨_, rfl⟩
  have hsl := SliceAt.of_own hO (flat_one _)
  rw [← hn] at hsl hlen
  obtain ⟨ka, kc, rfl, hkc, hkm, hcell⟩ := hsl.form (by decide)
  have HMD := Lib.hid (made_any w tb sa _ _ hT)
  have HN := Lib.hid hn
  have HCL := Lib.hid hcell
  have HT := Lib.hid hT
  have HS := Lib.hid hS
  have HM := Lib.hid hM
  have HORD := Lib.hid hB.ord
  have HOK := Lib.hid hB.ok
  have HLEN := Lib.hid hlen
  have HPB := Lib.hid hpb
  have HPC := Lib.hid hpc
  have t1 : w.cell? ⟨tb, 1, none⟩ = some (.pointer (some ⟨ss, 0, none⟩)) := hT.cell 1
  have k1 : w.cell? ⟨ss, 1, none⟩ = some (.slice ka n kc) := hS.cell 1
  clear h hsl hcell hn hS hM hO hT hA hB hV hpb hpc
  go_enter Try.func37, Try.ntmps37
  go_wp2_with (go_at_call 34; go_must (refine HMD.out.mono ?_; rintro e w1 ⟨rfl, rfl⟩))
  clear k1 t1
  go_loopw [23, 9] (fun i u wr => ∃ m : Nat, m ≤ n ∧ i = .int .i64 m ∧ wr.ownsRow w.heap.size 3 1 u (sourcesL (S.take m) s c pm).length ((sourcesL (S.take m) s c pm).map anInt) ∧ RowKit.Below w.heap.size w wr) (fun i _ _ => n - (intOf i).toNat)
  case atStart => exact ⟨0, Nat.zero_le _, rfl, by simpa [sourcesL] using World.ownsRow_nil _ _ _ _, Below.refl _ _⟩
  case round =>
    obtain ⟨m, hm, rfl, hOr, hBr⟩ := hrel
    obtain ⟨p, hp⟩ : ∃ p, p = (sourcesL (S.take m) s c pm).length := ⟨_, rfl⟩
    rw [← hp] at hOr
    obtain ⟨oa, oc, rfl⟩ := own_shape hOr
    have HOr := Lib.hid hOr
    have HBr := Lib.hid hBr
    have HPL := Lib.hid (show p ≤ 100000 by rw [hp]; have := sourcesL_len (S.take m) s c pm; have h3 : (S.take m).length ≤ S.length := by {rw [List.length_take]; omega}; have := HN.out; omega)
    have HPP := Lib.hid hp
    clear hOr hBr hp
    by_cases hlt : m < n
    · obtain ⟨y, hy⟩ : ∃ y, S[m]? = some y := ⟨_, List.getElem?_eq_getElem (by rw [← HN.out]; exact hlt)⟩
      obtain ⟨b, off, rfl, hcl⟩ := HCL.out m hlt
      have hk0 : wr.cell? ⟨b, off + m * 4, none⟩ = some (.int .i64 y.key.src) := cell_later HBr.out (flat_cell hcl (by rw [List.getElem?_map, hy]; rfl) 0 _ rfl)
      have hk1 : wr.cell? ⟨b, off + m * 4 + 1, none⟩ = some (.int .i64 y.key.tgt) := cell_later HBr.out (flat_cell hcl (by rw [List.getElem?_map, hy]; rfl) 1 _ rfl)
      have hk2 : wr.cell? ⟨b, off + m * 4 + 2, none⟩ = some (.int .i64 y.key.cls) := cell_later HBr.out (flat_cell hcl (by rw [List.getElem?_map, hy]; rfl) 2 _ rfl)
      have hk3 : wr.cell? ⟨b, off + m * 4 + 3, none⟩ = some (.int .i64 y.key.cond) := cell_later HBr.out (flat_cell hcl (by rw [List.getElem?_map, hy]; rfl) 3 _ rfl)
      have HY := Lib.hid hy
      have HYO := Lib.hid (HOK.out y (at_mem hy))
      have HTK := Lib.hid (show S.take (m + 1) = S.take m ++ [y] from take_snoc hy)
      have HNX := Lib.hid (sourcesL_snoc (S.take m) y s c pm)
      clear hcl hy
      go_upto_region 7 with (refine wpList_store_blk rfl 60 _ _ rfl wr.heap.size 0 (.agg #[.int .i64 y.key.src, .int .i64 y.key.tgt, .int .i64 y.key.cls, .int .i64 y.key.cond]) rfl rfl 60 _ (Whole.new wr 60 _) (by simp [Value.cells]) size60 rfl ?_; intro w3 S3 W3; rw [splice_all _ _ (by rfl)] at W3; have HS3 := Lib.hid S3; have HW3 := Lib.hid (show Whole w3 wr.heap.size 60 #[.int .i64 y.key.src, .int .i64 y.key.tgt, .int .i64 y.key.cls, .int .i64 y.key.cond] from W3); clear S3 W3)
      clear hk0 hk1 hk2 hk3
      have HB3 := Lib.hid (show RowKit.Below wr.heap.size wr w3 from ((Below.refl _ wr).alloc (Nat.le_refl _) _).trans (HS3.out.below (Nat.le_refl _)))
      have HBw3 := Lib.hid (HBr.out.trans (HB3.out.mono HBr.out.size))
      have HO3 := Lib.hid (own_keep HB3.out HOr.out (Nat.le_refl _))
      by_cases hq : y.tgt = s ∧ y.cls = c
      · have HQ := Lib.hid (show decide (y.key.tgt = s ∧ y.key.cls = c) = true from decide_eq_true hq)
        have hqd : decide (y.tgt = s ∧ y.cls = c) = true := decide_eq_true hq
        rw [hqd, Bool.true_and] at HNX
        clear hq hqd
        refine ch7_39_t w3 tb wr.heap.size sa ss mb (.slice (some ⟨b, off, none⟩) n kc) vv (.pointer (some ⟨pb, 0, none⟩)) (.pointer (some ⟨pc, 0, none⟩)) pm y.key y.vecs _ _ _ _ _ _ _ _ _ _ _ _ _ _ _ _ _ _ _ _ _ _ _ _ _ _ _ _ _ _ _ _ _ _ _ _ _ _ _ _ _ _ _ _ _ _ _ _ _ _ _ _ (Lib.hid (Whole.under HBw3.out HT.out HT.out.lt)) (Lib.hid (Whole.under HBw3.out HS.out HS.out.lt)) HW3 (Lib.hid fun W hW => by
          have h := store_look ((HM.out.kept (HBw3.out.block _ HM.out.lt)).kept (hW.block _ (Nat.lt_of_lt_of_le HM.out.lt HBw3.out.size))) HORD.out HYO.out.1
          rwa [lookV_at HORD.out HY.out rfl] at h) (Lib.hid fun W hW => by
          have hbw := HBw3.out.trans (hW.mono HBw3.out.size)
          have h := sources1_any W y.key pb pc s c (Whole.under hbw HPB.out HPB.out.lt) (Whole.under hbw HPC.out HPC.out.lt)
          rwa [HQ.out] at h) ?_
        intro v27 v28 v29 v30 v31 v32 v33 v34 v35 v36 v37 v38 v39 v40 v41 v42 v43 v44 w5 hb5
        have HBw5 := Lib.hid (HBw3.out.trans (hb5.mono HBw3.out.size))
        have HO5 := Lib.hid (own_keep hb5 HO3.out (Nat.le_refl _))
        have HK5 := Lib.hid (Whole.under hb5 HW3.out HW3.out.lt)
        clear hb5
        by_cases hz : (bits .and .u32 y.allow pm == pm) = true
        · have hz' : (bits .and .u32 y.vecs.allow pm == pm) = true := hz
          rw [if_pos hz] at HNX
          clear hz
          have kq : w5.cell? ⟨wr.heap.size, 0, none⟩ = some (.int .i64 y.key.src) := HK5.out.cell 0
          go_wp2_with (at_builtin; go_must (refine wpList_append_own _ rfl _ _ 53 rfl w.heap.size 3 i0 z0 1 8 Try.underlying53 hi0 hz0 hz1 hz2 hzs (by decide) _ _ _ rfl (own_alloc HO5.out _) ⟨w5.heap.size, 0, none⟩ 1 1 [.int .i64 y.key.src] rfl rfl (row_new _ _ _) ?c2 ?c3 ?c4 ?c5 ?_))
          case c2 => simp [Value.oneCell']
          case c3 => have := HPL.out; unfold maxLen; omega
          case c4 => have := HPL.out; omega
          case c5 => have := HBw5.out.size; simp; omega
          intro u9 w9 ho9 hg9 hn9
          have HB9 := Lib.hid ((HBw5.out.alloc HBw5.out.size _).grown hg9 (by have := HBw5.out.size; simp; omega) (fun q hq => (HO5.out.lt q hq).1))
          have HO9 := Lib.hid ho9
          clear hg9 hn9 ho9 kq
          go_wp2_with fail
          go_roundw
          case rel => exact ⟨m + 1, by omega, by go_num, by rw [HTK.out, HNX.out, List.length_append, List.map_append, ← HPP.out]; exact HO9.out, HB9.out⟩
          case measure => simp [intOf]; omega
        · have hz' : (bits .and .u32 y.vecs.allow pm == pm) = false := Bool.eq_false_iff.2 hz
          rw [if_neg hz] at HNX
          clear hz
          go_wp2_with fail
          go_roundw
          case rel => exact ⟨m + 1, by omega, by go_num, by rw [HTK.out, HNX.out, ← HPP.out]; exact HO5.out, HBw5.out⟩
          case measure => simp [intOf]; omega
      · have HQ := Lib.hid (show decide (y.key.tgt = s ∧ y.key.cls = c) = false from decide_eq_false hq)
        have hqd : decide (y.tgt = s ∧ y.cls = c) = false := decide_eq_false hq
        rw [hqd, Bool.false_and, if_neg (by simp)] at HNX
        clear hq hqd
        refine ch7_39_f w3 tb wr.heap.size sa ss mb (.slice (some ⟨b, off, none⟩) n kc) vv (.pointer (some ⟨pb, 0, none⟩)) (.pointer (some ⟨pc, 0, none⟩)) pm y.key y.vecs _ _ _ _ _ _ _ _ _ _ _ _ _ _ _ _ _ _ _ _ _ _ _ _ _ _ _ _ _ _ _ _ _ _ _ _ _ _ _ _ _ _ _ _ _ _ _ _ _ _ _ _ (Lib.hid (Whole.under HBw3.out HT.out HT.out.lt)) (Lib.hid (Whole.under HBw3.out HS.out HS.out.lt)) HW3 (Lib.hid fun W hW => by
          have h := store_look ((HM.out.kept (HBw3.out.block _ HM.out.lt)).kept (hW.block _ (Nat.lt_of_lt_of_le HM.out.lt HBw3.out.size))) HORD.out HYO.out.1
          rwa [lookV_at HORD.out HY.out rfl] at h) (Lib.hid fun W hW => by
          have hbw := HBw3.out.trans (hW.mono HBw3.out.size)
          have h := sources1_any W y.key pb pc s c (Whole.under hbw HPB.out HPB.out.lt) (Whole.under hbw HPC.out HPC.out.lt)
          rwa [HQ.out] at h) ?_
        intro v27 v28 v29 v30 v31 v32 v33 v34 v35 v36 v37 v38 v39 v40 v41 v42 v43 v44 w5 hb5
        have HBw5 := Lib.hid (HBw3.out.trans (hb5.mono HBw3.out.size))
        have HO5 := Lib.hid (own_keep hb5 HO3.out (Nat.le_refl _))
        have HK5 := Lib.hid (Whole.under hb5 HW3.out HW3.out.lt)
        clear hb5
        go_wp2_with fail
        go_roundw
        case rel => exact ⟨m + 1, by omega, by go_num, by rw [HTK.out, HNX.out, ← HPP.out]; exact HO5.out, HBw5.out⟩
        case measure => simp [intOf]; omega
    · obtain rfl : m = n := by omega
      have hfull : S.take m = S := List.take_of_length_le (by rw [HN.out]; exact Nat.le_refl _)
      rw [hfull] at HOr HPP
      clear hfull
      have HSR := Lib.hid (sort_any wr w.heap.size (.slice oa p oc) (sourcesL S s c pm) (by rw [← HPP.out]; exact HOr.out) (by rw [← HPP.out]; have := HPL.out; omega))
      go_wp2_with (go_at_call 43; go_must (refine HSR.out.mono ?_; rintro e w1 ⟨rfl, ho, hg⟩; have HO1 := Lib.hid ho; have HG1 := Lib.hid hg; clear ho hg))
      go_ret
      exact ⟨_, ret_val rfl, HO1.out, HBr.out.grown HG1.out HBr.out.size (fun q hq => (HOr.out.lt q hq).1)⟩
set_option maxRecDepth 100000 in
theorem targets_any (w : World) (base tb : Nat) (S A0 : List AEntry) (vals : List Bool) (s c pm : Int) (h : TabAt w base tb A0 S vals) (hlen : S.length ≤ 100000) :
    Calls Try.prog 22 #[.pointer (some ⟨tb, 0, none⟩), .int .i64 s, .int .i64 c, .int .u32 pm] w fun e w' => ∃ v, e = .returned v ∧ w'.ownsRow w.heap.size 3 1 v (targetsL S s c pm).length (((targetsL S s c pm).mergeSort fun x y => decide (x ≤ y)).map anInt) ∧ RowKit.Below w.heap.size w w' := by
  obtain ⟨wo, hwo⟩ : ∃ wo, wo = ((w.alloc (.cells #[.int .i64 s] 3)).alloc (.cells #[.int .i64 c] 3)) := ⟨_, rfl⟩
  have HBO := Lib.hid (show RowKit.Below w.heap.size w wo by rw [hwo]; exact ((Below.refl _ w).alloc (Nat.le_refl _) _).alloc (by simp) _)
  have HC := Lib.hid (targetsc_any wo base tb w.heap.size (w.heap.size + 1) S A0 vals s c pm (h.keep HBO.out) hlen (by rw [hwo]; exact (Whole.new w 3 _).alloc _) (by rw [hwo]; exact whole_two w _ _ _))
  clear h
  go_enter Try.func22, Try.ntmps22
  go_upto_region 1 with fail
  rw [← hwo]
  clear hwo
  go_wp2_with (go_at_call 37; go_must (refine HC.out.mono ?_; rintro e w1 ⟨v, rfl, ho, hb⟩; have HO1 := Lib.hid ho; have HB1 := Lib.hid hb; clear ho hb))
  go_ret
  exact ⟨_, ret_val rfl, own_low HO1.out HBO.out.size, HBO.out.trans (HB1.out.mono HBO.out.size)⟩
set_option maxRecDepth 100000 in
theorem sources_any (w : World) (base tb : Nat) (S A0 : List AEntry) (vals : List Bool) (s c pm : Int) (h : TabAt w base tb A0 S vals) (hlen : S.length ≤ 100000) :
    Calls Try.prog 23 #[.pointer (some ⟨tb, 0, none⟩), .int .i64 s, .int .i64 c, .int .u32 pm] w fun e w' => ∃ v, e = .returned v ∧ w'.ownsRow w.heap.size 3 1 v (sourcesL S s c pm).length (((sourcesL S s c pm).mergeSort fun x y => decide (x ≤ y)).map anInt) ∧ RowKit.Below w.heap.size w w' := by
  obtain ⟨wo, hwo⟩ : ∃ wo, wo = ((w.alloc (.cells #[.int .i64 s] 3)).alloc (.cells #[.int .i64 c] 3)) := ⟨_, rfl⟩
  have HBO := Lib.hid (show RowKit.Below w.heap.size w wo by rw [hwo]; exact ((Below.refl _ w).alloc (Nat.le_refl _) _).alloc (by simp) _)
  have HC := Lib.hid (sourcesc_any wo base tb w.heap.size (w.heap.size + 1) S A0 vals s c pm (h.keep HBO.out) hlen (by rw [hwo]; exact (Whole.new w 3 _).alloc _) (by rw [hwo]; exact whole_two w _ _ _))
  clear h
  go_enter Try.func23, Try.ntmps23
  go_upto_region 1 with fail
  rw [← hwo]
  clear hwo
  go_wp2_with (go_at_call 37; go_must (refine HC.out.mono ?_; rintro e w1 ⟨v, rfl, ho, hb⟩; have HO1 := Lib.hid ho; have HB1 := Lib.hid hb; clear ho hb))
  go_ret
  exact ⟨_, ret_val rfl, own_low HO1.out HBO.out.size, HBO.out.trans (HB1.out.mono HBO.out.size)⟩
end Go.Proofs.Ytlkkdpoliafjbaa
