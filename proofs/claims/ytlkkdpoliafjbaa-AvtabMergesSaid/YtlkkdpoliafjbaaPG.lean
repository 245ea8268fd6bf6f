import Derived.Test.YtlkkdpoliafjbaaPF
/-
  AvtabMerges.
-/
namespace Go.Proofs.Ytlkkdpoliafjbaa
open Go Go.WideMaps Go.RowKit

set_option maxRecDepth 100000 in
set_option maxHeartbeats 4000000 in
theorem mg11 (w : World) (b off n c m k : Nat) (x y : AEntry) (x0 x1 x2 x3 x4 x5 x7 x9 x10 x11 x12 x13 x14 x15 x16 x17 x18 x19 x20 x21 x22 x23 x24 x25 x26 x27 x28 x29 x30 x31 x32 x33 x34 x35 x36 x37 x38 x39 x40 x41 x42 x43 x44 x45 x46 x47 x48 x49 x50 x51 x52 x53 x54 x55 x56 x57 x58 x59 x60 x61 x62 x63 x64 x65 x66 x67 x68 x69 x70 x71 x72 x73 x74 x75 x76 x77 x78 x79 x80 x81 x82 x83 x84 x85 x86 x87 x88 x89 x90 x91 x92 x93 x94 x95 x96 x97 x98 x99 x100 x101 x102 x103 x104 x105 x106 x107 x108 x109 x110 x111 x112 x113 x114 x115 x116 x117 x118 x119 x120 x121 x122 x123 x124 x125 : Value) (hm : m < n) (hk : k < n) (hkb : k ≤ 1000) (hmk : (m : Int) - 1 = (k : Int)) (HY : Hid (∀ j u, y.cells[j]? = some u → w.cell? ⟨b, off + k * 7 + j, none⟩ = some u)) (HX : Hid (∀ j u, x.cells[j]? = some u → w.cell? ⟨b, off + m * 7 + j, none⟩ = some u)) (HC : Hid (∀ W, Calls Try.prog 18 #[.agg #[.int .i64 y.src, .int .i64 y.tgt, .int .i64 y.cls, .int .i64 y.cond, .int .u32 y.allow, .int .u32 y.audit, .int .u32 y.dont], .agg #[.int .i64 x.src, .int .i64 x.tgt, .int .i64 x.cls, .int .i64 x.cond, .int .u32 x.allow, .int .u32 x.audit, .int .u32 x.dont]] W fun e w' => e = .returned (.bool true) ∧ RowKit.Below W.heap.size W w'))
    {Q' : Exit → Act → World → Prop} (hend : ∀ (v35 v36 v37 v38 v39 v40 v41 v42 v43 v44 : Value) (w' : World), RowKit.Below w.heap.size w w' → Q' .normal ⟨#[x0, x1, x2, x3, x4, x5, .slice (some ⟨b, off, none⟩) n c, x7, .int .i64 (m : Nat), x9, x10, x11, x12, x13, x14, x15, x16, x17, x18, x19, x20, x21, x22, x23, x24, x25, x26, x27, x28, x29, x30, x31, x32, x33, x34, v35, v36, v37, v38, v39, v40, v41, v42, v43, v44, .bool false, x46, x47, x48, x49, x50, x51, x52, x53, x54, x55, x56, x57, x58, x59, x60, x61, x62, x63, x64, x65, x66, x67, x68, x69, x70, x71, x72, x73, x74, x75, x76, x77, x78, x79, x80, x81, x82, x83, x84, x85, x86, x87, x88, x89, x90, x91, x92, x93, x94, x95, x96, x97, x98, x99, x100, x101, x102, x103, x104, x105, x106, x107, x108, x109, x110, x111, x112, x113, x114, x115, x116, x117, x118, x119, x120, x121, x122, x123, x124, x125], []⟩ w') :
    Code.wp Try.prog (findRegion7 11 ((Try.f5.body).getD .skip)) Q' ⟨#[x0, x1, x2, x3, x4, x5, .slice (some ⟨b, off, none⟩) n c, x7, .int .i64 (m : Nat), x9, x10, x11, x12, x13, x14, x15, x16, x17, x18, x19, x20, x21, x22, x23, x24, x25, x26, x27, x28, x29, x30, x31, x32, x33, x34, x35, x36, x37, x38, x39, x40, x41, x42, x43, x44, x45, x46, x47, x48, x49, x50, x51, x52, x53, x54, x55, x56, x57, x58, x59, x60, x61, x62, x63, x64, x65, x66, x67, x68, x69, x70, x71, x72, x73, x74, x75, x76, x77, x78, x79, x80, x81, x82, x83, x84, x85, x86, x87, x88, x89, x90, x91, x92, x93, x94, x95, x96, x97, x98, x99, x100, x101, x102, x103, x104, x105, x106, x107, x108, x109, x110, x111, x112, x113, x114, x115, x116, x117, x118, x119, x120, x121, x122, x123, x124, x125], []⟩ w := by
  have HEND := Lib.hid hend
  clear hend
  conv => arg 2; whnf
  conv => arg 4; dsimp only
  refine wp_region_goods [some 35, some 36, some 37, some 38, some 39, some 40, some 41, some 42, some 43, some 44] [isW (.slice (some ⟨b, off, none⟩) n c), isW (.int .i64 (m : Nat)), isW (.int .i64 (k : Int)), isW (.pointer (some ⟨b, off + k * 7, none⟩)), isW (.agg #[.int .i64 y.src, .int .i64 y.tgt, .int .i64 y.cls, .int .i64 y.cond, .int .u32 y.allow, .int .u32 y.audit, .int .u32 y.dont]), isW (.slice (some ⟨b, off, none⟩) n c), isW (.int .i64 (m : Nat)), isW (.pointer (some ⟨b, off + m * 7, none⟩)), isW (.agg #[.int .i64 x.src, .int .i64 x.tgt, .int .i64 x.cls, .int .i64 x.cond, .int .u32 x.allow, .int .u32 x.audit, .int .u32 x.dont]), isW (.bool true)] (fun _ w' => RowKit.Below w.heap.size w w') [] (by kernel_rfl) (by kernel_rfl) (by kernel_rfl) rfl (by decide) rfl rfl ((Below.refl _ _).drew) ⟨lastsW_is _, lastsW_is _, lastsW_is _, lastsW_is _, lastsW_is _, lastsW_is _, lastsW_is _, lastsW_is _, lastsW_is _, lastsW_is _, trivial⟩ ⟨?_, ?_, ?_, ?_, ?_, ?_, ?_, ?_, ?_, ?_, ?_⟩
  · intro L a wy Q' hL hi H F hK
    try dsimp only at hi
    have h6 : a.tmps[6]? = some (.slice (some ⟨b, off, none⟩) n c) := F 6 rfl
    have HI := Lib.hid hi
    clear H F hi hL
    go_wp2_with fail
    exact hK _ _ (Below.refl _ _) HI.out rfl
  · intro L a wy Q' hL hi H F hK
    try dsimp only at hi
    have h8 : a.tmps[8]? = some (.int .i64 (m : Nat)) := F 8 rfl
    have HI := Lib.hid hi
    clear H F hi hL
    go_wp2_with fail
    exact hK _ _ (Below.refl _ _) HI.out rfl
  · intro L a wy Q' hL hi H F hK
    try dsimp only at hi
    obtain ⟨_, h36, rfl⟩ := H 1 ⟨.data, by simp, rfl⟩ _ rfl
    replace h36 := h36 _ rfl
    have HI := Lib.hid hi
    clear H F hi hL
    go_wp2_with fail
    exact hK _ _ (Below.refl _ _) HI.out rfl
  · intro L a wy Q' hL hi H F hK
    try dsimp only at hi
    obtain ⟨_, h35, rfl⟩ := H 0 ⟨.data, by simp, rfl⟩ _ rfl
    replace h35 := h35 _ rfl
    obtain ⟨_, h37, rfl⟩ := H 2 ⟨.data, by simp, rfl⟩ _ rfl
    replace h37 := h37 _ rfl
    have HI := Lib.hid hi
    clear H F hi hL
    go_wp2_with fail
    exact hK _ _ (Below.refl _ _) HI.out rfl
  · intro L a wy Q' hL hi H F hK
    try dsimp only at hi
    obtain ⟨_, h38, rfl⟩ := H 3 ⟨.data, by simp, rfl⟩ _ rfl
    replace h38 := h38 _ rfl
    have HI := Lib.hid hi
    clear H F hi hL
    have kq0 : wy.cell? ⟨b, off + k * 7, none⟩ = some (.int .i64 y.src) := cell_later HI.out (HY.out 0 _ rfl)
    have kq1 : wy.cell? ⟨b, off + k * 7 + 1, none⟩ = some (.int .i64 y.tgt) := cell_later HI.out (HY.out 1 _ rfl)
    have kq2 : wy.cell? ⟨b, off + k * 7 + 2, none⟩ = some (.int .i64 y.cls) := cell_later HI.out (HY.out 2 _ rfl)
    have kq3 : wy.cell? ⟨b, off + k * 7 + 3, none⟩ = some (.int .i64 y.cond) := cell_later HI.out (HY.out 3 _ rfl)
    have kq4 : wy.cell? ⟨b, off + k * 7 + 4, none⟩ = some (.int .u32 y.allow) := cell_later HI.out (HY.out 4 _ rfl)
    have kq5 : wy.cell? ⟨b, off + k * 7 + 5, none⟩ = some (.int .u32 y.audit) := cell_later HI.out (HY.out 5 _ rfl)
    have kq6 : wy.cell? ⟨b, off + k * 7 + 6, none⟩ = some (.int .u32 y.dont) := cell_later HI.out (HY.out 6 _ rfl)
    go_wp2_with fail
    exact hK _ _ (Below.refl _ _) HI.out rfl
  · intro L a wy Q' hL hi H F hK
    try dsimp only at hi
    have h6 : a.tmps[6]? = some (.slice (some ⟨b, off, none⟩) n c) := F 6 rfl
    have HI := Lib.hid hi
    clear H F hi hL
    go_wp2_with fail
    exact hK _ _ (Below.refl _ _) HI.out rfl
  · intro L a wy Q' hL hi H F hK
    try dsimp only at hi
    have h8 : a.tmps[8]? = some (.int .i64 (m : Nat)) := F 8 rfl
    have HI := Lib.hid hi
    clear H F hi hL
    go_wp2_with fail
    exact hK _ _ (Below.refl _ _) HI.out rfl
  · intro L a wy Q' hL hi H F hK
    try dsimp only at hi
    obtain ⟨_, h40, rfl⟩ := H 5 ⟨.data, by simp, rfl⟩ _ rfl
    replace h40 := h40 _ rfl
    obtain ⟨_, h41, rfl⟩ := H 6 ⟨.data, by simp, rfl⟩ _ rfl
    replace h41 := h41 _ rfl
    have HI := Lib.hid hi
    clear H F hi hL
    go_wp2_with fail
    exact hK _ _ (Below.refl _ _) HI.out rfl
  · intro L a wy Q' hL hi H F hK
    try dsimp only at hi
    obtain ⟨_, h42, rfl⟩ := H 7 ⟨.data, by simp, rfl⟩ _ rfl
    replace h42 := h42 _ rfl
    have HI := Lib.hid hi
    clear H F hi hL
    have kq0 : wy.cell? ⟨b, off + m * 7, none⟩ = some (.int .i64 x.src) := cell_later HI.out (HX.out 0 _ rfl)
    have kq1 : wy.cell? ⟨b, off + m * 7 + 1, none⟩ = some (.int .i64 x.tgt) := cell_later HI.out (HX.out 1 _ rfl)
    have kq2 : wy.cell? ⟨b, off + m * 7 + 2, none⟩ = some (.int .i64 x.cls) := cell_later HI.out (HX.out 2 _ rfl)
    have kq3 : wy.cell? ⟨b, off + m * 7 + 3, none⟩ = some (.int .i64 x.cond) := cell_later HI.out (HX.out 3 _ rfl)
    have kq4 : wy.cell? ⟨b, off + m * 7 + 4, none⟩ = some (.int .u32 x.allow) := cell_later HI.out (HX.out 4 _ rfl)
    have kq5 : wy.cell? ⟨b, off + m * 7 + 5, none⟩ = some (.int .u32 x.audit) := cell_later HI.out (HX.out 5 _ rfl)
    have kq6 : wy.cell? ⟨b, off + m * 7 + 6, none⟩ = some (.int .u32 x.dont) := cell_later HI.out (HX.out 6 _ rfl)
    go_wp2_with fail
    exact hK _ _ (Below.refl _ _) HI.out rfl
  · intro L a wy Q' hL hi H F hK
    try dsimp only at hi
    obtain ⟨_, h39, rfl⟩ := H 4 ⟨.data, by simp, rfl⟩ _ rfl
    replace h39 := h39 _ rfl
    obtain ⟨_, h43, rfl⟩ := H 8 ⟨.data, by simp, rfl⟩ _ rfl
    replace h43 := h43 _ rfl
    have HI := Lib.hid hi
    clear H F hi hL
    have HK := Lib.hid hK
    clear hK
    go_wp2_with (go_at_call 18; go_must (refine (HC.out wy).mono ?_; rintro e w1 ⟨rfl, hb1⟩))
    exact HK.out _ _ hb1 (HI.out.trans (hb1.mono HI.out.size)) rfl
  · intro a wy L hl hi hL Q' hK
    try dsimp only at hi
    have HB := Lib.hid hi
    clear hi hL
    obtain ⟨_, rfl, _, rfl, _, rfl, _, rfl, _, rfl, _, rfl, _, rfl, _, rfl, _, rfl, _, rfl, rfl⟩ := hl
    simp only [List.setIfInBounds_toArray, List.set_cons_zero, List.set_cons_succ]
    go_wp2_with fail
    exact HEND.out _ _ _ _ _ _ _ _ _ _ _ HB.out
set_option maxRecDepth 100000 in
set_option maxHeartbeats 4000000 in
theorem mg18_t (w : World) (b off n c m k xb : Nat) (x y : AEntry) (x0 x1 x2 x3 x4 x5 x6 x8 x14 x15 x16 x17 x18 x19 x20 x21 x22 x23 x24 x25 x26 x27 x28 x29 x30 x31 x32 x33 x34 x35 x36 x37 x38 x39 x40 x41 x42 x43 x44 x45 x46 x47 x48 x49 x50 x51 x52 x53 x54 x55 x56 x57 x58 x59 x60 x61 x62 x63 x64 x65 x66 x67 x68 x69 x70 x71 x72 x73 x74 x75 x76 x77 x78 x79 x80 x81 x82 x83 x84 x85 x86 x87 x88 x89 x90 x91 x92 x93 x94 x95 x96 x97 x98 x99 x100 x101 x102 x103 x104 x105 x106 x107 x108 x109 x110 x111 x112 x113 x114 x115 x116 x117 x118 x119 x120 x121 x122 x123 x124 x125 : Value) (hm : 0 < m) (hk : k < n) (hkb : k ≤ 1000) (hmk : (m : Int) - 1 = (k : Int)) (HY : Hid (∀ j u, y.cells[j]? = some u → w.cell? ⟨b, off + k * 7 + j, none⟩ = some u)) (HC : Hid (∀ W, Calls Try.prog 18 #[.agg #[.int .i64 y.src, .int .i64 y.tgt, .int .i64 y.cls, .int .i64 y.cond, .int .u32 y.allow, .int .u32 y.audit, .int .u32 y.dont], .agg #[.int .i64 x.src, .int .i64 x.tgt, .int .i64 x.cls, .int .i64 0, .int .u32 x.allow, .int .u32 x.audit, .int .u32 x.dont]] W fun e w' => e = .returned (.bool true) ∧ RowKit.Below W.heap.size W w'))(HXB : Hid (Whole w xb 37 #[.int .i64 x.src, .int .i64 x.tgt, .int .i64 x.cls, .int .i64 0, .int .u32 x.allow, .int .u32 x.audit, .int .u32 x.dont])) (hz : (bits .or .u32 (bits .or .u32 x.allow x.audit) x.dont == 0) = false)
    {Q' : Exit → Act → World → Prop} (hend : ∀ (v68 v69 v70 v71 v72 v73 v74 v75 v76 v77 v78 v79 v80 v81 v82 v83 v84 v85 v86 v87 v88 v89 v90 v91 v92 v93 v94 v95 v96 v97 v98 v99 v100 v101 v102 v103 v104 v105 v106 v107 v108 v109 : Value) (w' : World), RowKit.Below w.heap.size w w' → Q' .normal ⟨#[x0, x1, x2, x3, x4, x5, x6, .slice (some ⟨b, off, none⟩) n c, x8, .int .i64 (m : Nat), .pointer (some ⟨xb, 0, none⟩), .int .u32 x.allow, .int .u32 x.audit, .int .u32 x.dont, x14, x15, x16, x17, x18, x19, x20, x21, x22, x23, x24, x25, x26, x27, x28, x29, x30, x31, x32, x33, x34, x35, x36, x37, x38, x39, x40, x41, x42, x43, x44, x45, x46, x47, x48, x49, x50, x51, x52, x53, x54, x55, x56, x57, x58, x59, x60, x61, x62, x63, x64, x65, x66, x67, v68, v69, v70, v71, v72, v73, v74, v75, v76, v77, v78, v79, v80, v81, v82, v83, v84, v85, v86, v87, v88, v89, v90, v91, v92, v93, v94, v95, v96, v97, v98, v99, v100, v101, v102, v103, v104, v105, v106, v107, v108, v109, .bool false, x111, x112, x113, x114, x115, x116, x117, x118, x119, x120, x121, x122, x123, x124, x125], []⟩ w') :
    Code.wp Try.prog (findRegion7 18 ((Try.f5.body).getD .skip)) Q' ⟨#[x0, x1, x2, x3, x4, x5, x6, .slice (some ⟨b, off, none⟩) n c, x8, .int .i64 (m : Nat), .pointer (some ⟨xb, 0, none⟩), .int .u32 x.allow, .int .u32 x.audit, .int .u32 x.dont, x14, x15, x16, x17, x18, x19, x20, x21, x22, x23, x24, x25, x26, x27, x28, x29, x30, x31, x32, x33, x34, x35, x36, x37, x38, x39, x40, x41, x42, x43, x44, x45, x46, x47, x48, x49, x50, x51, x52, x53, x54, x55, x56, x57, x58, x59, x60, x61, x62, x63, x64, x65, x66, x67, x68, x69, x70, x71, x72, x73, x74, x75, x76, x77, x78, x79, x80, x81, x82, x83, x84, x85, x86, x87, x88, x89, x90, x91, x92, x93, x94, x95, x96, x97, x98, x99, x100, x101, x102, x103, x104, x105, x106, x107, x108, x109, x110, x111, x112, x113, x114, x115, x116, x117, x118, x119, x120, x121, x122, x123, x124, x125], []⟩ w := by
  have HEND := Lib.hid hend
  clear hend
  conv => arg 2; whnf
  conv => arg 4; dsimp only
  refine wp_region_goods [some 68, some 69, some 70, some 71, some 72, some 73, some 74, some 75, some 76, some 77, some 78, some 79, some 80, some 81, some 82, some 83, some 84, some 85, some 86, some 87, some 88, some 89, some 90, some 91, some 92, some 93, some 94, some 95, some 96, some 97, some 98, some 99, some 100, some 101, some 102, some 103, some 104, some 105, some 106, some 107, some 108, some 109] [isW (.int .i64 (m : Nat)), isW (.bool true), isW (.bool true), isW (.slice (some ⟨b, off, none⟩) n c), isW (.int .i64 (m : Nat)), isW (.int .i64 (k : Int)), isW (.pointer (some ⟨b, off + k * 7, none⟩)), isW (.agg #[.int .i64 y.src, .int .i64 y.tgt, .int .i64 y.cls, .int .i64 y.cond, .int .u32 y.allow, .int .u32 y.audit, .int .u32 y.dont]), isW (.agg #[.int .i64 x.src, .int .i64 x.tgt, .int .i64 x.cls, .int .i64 0, .int .u32 x.allow, .int .u32 x.audit, .int .u32 x.dont]), isW (.bool true), isW (.bool false), isW (.bool false), isW (.bool false), isW (.pointer (some ⟨xb, 3, none⟩)), isW (.int .i64 0), isW (.bool false), isW (.bool false), isW (.bool false), isW (.int .u32 x.allow), isW (.pointer (some ⟨xb, 4, none⟩)), isW (.int .u32 x.allow), isW (.bool false), isW (.bool false), isW (.bool false), isW (.int .u32 x.audit), isW (.pointer (some ⟨xb, 5, none⟩)), isW (.int .u32 x.audit), isW (.bool false), isW (.bool false), isW (.bool false), isW (.int .u32 x.dont), isW (.pointer (some ⟨xb, 6, none⟩)), isW (.int .u32 x.dont), isW (.bool false), isW (.bool false), isW (.bool false), isW (.int .u32 x.allow), isW (.int .u32 x.audit), isW (.int .u32 (bits .or .u32 x.allow x.audit)), isW (.int .u32 x.dont), isW (.int .u32 (bits .or .u32 (bits .or .u32 x.allow x.audit) x.dont)), isW (.bool false)] (fun _ w' => RowKit.Below w.heap.size w w') [] (by kernel_rfl) (by kernel_rfl) (by kernel_rfl) rfl (by decide) rfl rfl ((Below.refl _ _).drew) ⟨lastsW_is _, lastsW_is _, lastsW_is _, lastsW_is _, lastsW_is _, lastsW_is _, lastsW_is _, lastsW_is _, lastsW_is _, lastsW_is _, lastsW_is _, lastsW_is _, lastsW_is _, lastsW_is _, lastsW_is _, lastsW_is _, lastsW_is _, lastsW_is _, lastsW_is _, lastsW_is _, lastsW_is _, lastsW_is _, lastsW_is _, lastsW_is _, lastsW_is _, lastsW_is _, lastsW_is _, lastsW_is _, lastsW_is _, lastsW_is _, lastsW_is _, lastsW_is _, lastsW_is _, lastsW_is _, lastsW_is _, lastsW_is _, lastsW_is _, lastsW_is _, lastsW_is _, lastsW_is _, lastsW_is _, lastsW_is _, trivial⟩ ⟨?_, ?_, ?_, ?_, ?_, ?_, ?_, ?_, ?_, ?_, ?_, ?_, ?_, ?_, ?_, ?_, ?_, ?_, ?_, ?_, ?_, ?_, ?_, ?_, ?_, ?_, ?_, ?_, ?_, ?_, ?_, ?_, ?_, ?_, ?_, ?_, ?_, ?_, ?_, ?_, ?_, ?_, ?_⟩
  · intro L a wy Q' hL hi H F hK
    try dsimp only at hi
    have h9 : a.tmps[9]? = some (.int .i64 (m : Nat)) := F 9 rfl
    have HI := Lib.hid hi
    clear H F hi hL
    go_wp2_with fail
    exact hK _ _ (Below.refl _ _) HI.out rfl
  · intro L a wy Q' hL hi H F hK
    try dsimp only at hi
    obtain ⟨_, h68, rfl⟩ := H 0 ⟨.data, by simp, rfl⟩ _ rfl
    replace h68 := h68 _ rfl
    have HI := Lib.hid hi
    clear H F hi hL
    go_wp2_with fail
    exact hK _ _ (Below.refl _ _) HI.out rfl
  · intro L a wy Q' hL hi H F hK
    try dsimp only at hi
    obtain ⟨_, h69, rfl⟩ := H 1 ⟨.data, by simp, rfl⟩ _ rfl
    replace h69 := h69 _ rfl
    have HI := Lib.hid hi
    clear H F hi hL
    go_wp2_with fail
    exact hK _ _ (Below.refl _ _) HI.out rfl
  · intro L a wy Q' hL hi H F hK
    try dsimp only at hi
    obtain ⟨_, h70, rfl⟩ := H 2 ⟨.guard, by simp, rfl⟩ _ rfl
    replace h70 := h70 _ rfl
    have h7 : a.tmps[7]? = some (.slice (some ⟨b, off, none⟩) n c) := F 7 rfl
    have HI := Lib.hid hi
    clear H F hi hL
    go_wp2_with fail
    exact hK _ _ (Below.refl _ _) HI.out rfl
  · intro L a wy Q' hL hi H F hK
    try dsimp only at hi
    obtain ⟨_, h70, rfl⟩ := H 2 ⟨.guard, by simp, rfl⟩ _ rfl
    replace h70 := h70 _ rfl
    have h9 : a.tmps[9]? = some (.int .i64 (m : Nat)) := F 9 rfl
    have HI := Lib.hid hi
    clear H F hi hL
    go_wp2_with fail
    exact hK _ _ (Below.refl _ _) HI.out rfl
  · intro L a wy Q' hL hi H F hK
    try dsimp only at hi
    obtain ⟨_, h72, rfl⟩ := H 4 ⟨.data, by simp, rfl⟩ _ rfl
    replace h72 := h72 _ rfl
    obtain ⟨_, h70, rfl⟩ := H 2 ⟨.guard, by simp, rfl⟩ _ rfl
    replace h70 := h70 _ rfl
    have HI := Lib.hid hi
    clear H F hi hL
    go_wp2_with fail
    exact hK _ _ (Below.refl _ _) HI.out rfl
  · intro L a wy Q' hL hi H F hK
    try dsimp only at hi
    obtain ⟨_, h71, rfl⟩ := H 3 ⟨.data, by simp, rfl⟩ _ rfl
    replace h71 := h71 _ rfl
    obtain ⟨_, h73, rfl⟩ := H 5 ⟨.data, by simp, rfl⟩ _ rfl
    replace h73 := h73 _ rfl
    obtain ⟨_, h70, rfl⟩ := H 2 ⟨.guard, by simp, rfl⟩ _ rfl
    replace h70 := h70 _ rfl
    have HI := Lib.hid hi
    clear H F hi hL
    go_wp2_with fail
    exact hK _ _ (Below.refl _ _) HI.out rfl
  · intro L a wy Q' hL hi H F hK
    try dsimp only at hi
    obtain ⟨_, h74, rfl⟩ := H 6 ⟨.data, by simp, rfl⟩ _ rfl
    replace h74 := h74 _ rfl
    obtain ⟨_, h70, rfl⟩ := H 2 ⟨.guard, by simp, rfl⟩ _ rfl
    replace h70 := h70 _ rfl
    have HI := Lib.hid hi
    clear H F hi hL
    have kq0 : wy.cell? ⟨b, off + k * 7, none⟩ = some (.int .i64 y.src) := cell_later HI.out (HY.out 0 _ rfl)
    have kq1 : wy.cell? ⟨b, off + k * 7 + 1, none⟩ = some (.int .i64 y.tgt) := cell_later HI.out (HY.out 1 _ rfl)
    have kq2 : wy.cell? ⟨b, off + k * 7 + 2, none⟩ = some (.int .i64 y.cls) := cell_later HI.out (HY.out 2 _ rfl)
    have kq3 : wy.cell? ⟨b, off + k * 7 + 3, none⟩ = some (.int .i64 y.cond) := cell_later HI.out (HY.out 3 _ rfl)
    have kq4 : wy.cell? ⟨b, off + k * 7 + 4, none⟩ = some (.int .u32 y.allow) := cell_later HI.out (HY.out 4 _ rfl)
    have kq5 : wy.cell? ⟨b, off + k * 7 + 5, none⟩ = some (.int .u32 y.audit) := cell_later HI.out (HY.out 5 _ rfl)
    have kq6 : wy.cell? ⟨b, off + k * 7 + 6, none⟩ = some (.int .u32 y.dont) := cell_later HI.out (HY.out 6 _ rfl)
    go_wp2_with fail
    exact hK _ _ (Below.refl _ _) HI.out rfl
  · intro L a wy Q' hL hi H F hK
    try dsimp only at hi
    obtain ⟨_, h70, rfl⟩ := H 2 ⟨.guard, by simp, rfl⟩ _ rfl
    replace h70 := h70 _ rfl
    have h10 : a.tmps[10]? = some (.pointer (some ⟨xb, 0, none⟩)) := F 10 rfl
    have HI := Lib.hid hi
    clear H F hi hL
    have kq0 : wy.cell? ⟨xb, 0, none⟩ = some (.int .i64 x.src) := (Whole.under HI.out HXB.out (Whole.lt HXB.out)).cell 0
    have kq1 : wy.cell? ⟨xb, 1, none⟩ = some (.int .i64 x.tgt) := (Whole.under HI.out HXB.out (Whole.lt HXB.out)).cell 1
    have kq2 : wy.cell? ⟨xb, 2, none⟩ = some (.int .i64 x.cls) := (Whole.under HI.out HXB.out (Whole.lt HXB.out)).cell 2
    have kq3 : wy.cell? ⟨xb, 3, none⟩ = some (.int .i64 0) := (Whole.under HI.out HXB.out (Whole.lt HXB.out)).cell 3
    have kq4 : wy.cell? ⟨xb, 4, none⟩ = some (.int .u32 x.allow) := (Whole.under HI.out HXB.out (Whole.lt HXB.out)).cell 4
    have kq5 : wy.cell? ⟨xb, 5, none⟩ = some (.int .u32 x.audit) := (Whole.under HI.out HXB.out (Whole.lt HXB.out)).cell 5
    have kq6 : wy.cell? ⟨xb, 6, none⟩ = some (.int .u32 x.dont) := (Whole.under HI.out HXB.out (Whole.lt HXB.out)).cell 6
    go_wp2_with fail
    exact hK _ _ (Below.refl _ _) HI.out rfl
  · intro L a wy Q' hL hi H F hK
    try dsimp only at hi
    obtain ⟨_, h75, rfl⟩ := H 7 ⟨.data, by simp, rfl⟩ _ rfl
    replace h75 := h75 _ rfl
    obtain ⟨_, h76, rfl⟩ := H 8 ⟨.data, by simp, rfl⟩ _ rfl
    replace h76 := h76 _ rfl
    obtain ⟨_, h70, rfl⟩ := H 2 ⟨.guard, by simp, rfl⟩ _ rfl
    replace h70 := h70 _ rfl
    have HI := Lib.hid hi
    clear H F hi hL
    have HK := Lib.hid hK
    clear hK
    go_wp2_with (go_at_call 18; go_must (refine (HC.out wy).mono ?_; rintro e w1 ⟨rfl, hb1⟩))
    exact HK.out _ _ hb1 (HI.out.trans (hb1.mono HI.out.size)) rfl
  · intro L a wy Q' hL hi H F hK
    try dsimp only at hi
    obtain ⟨_, h77, rfl⟩ := H 9 ⟨.data, by simp, rfl⟩ _ rfl
    replace h77 := h77 _ rfl
    obtain ⟨_, h70, rfl⟩ := H 2 ⟨.guard, by simp, rfl⟩ _ rfl
    replace h70 := h70 _ rfl
    have HI := Lib.hid hi
    clear H F hi hL
    go_wp2_with fail
    exact hK _ _ (Below.refl _ _) HI.out rfl
  · intro L a wy Q' hL hi H F hK
    try dsimp only at hi
    obtain ⟨_, h70, rfl⟩ := H 2 ⟨.data, by simp, rfl⟩ _ rfl
    replace h70 := h70 _ rfl
    obtain ⟨_, h78, rfl⟩ := H 10 ⟨.data, by simp, rfl⟩ _ rfl
    replace h78 := h78 _ rfl
    have HI := Lib.hid hi
    clear H F hi hL
    go_wp2_with fail
    exact hK _ _ (Below.refl _ _) HI.out rfl
  · intro L a wy Q' hL hi H F hK
    try dsimp only at hi
    obtain ⟨_, h79, rfl⟩ := H 11 ⟨.data, by simp, rfl⟩ _ rfl
    replace h79 := h79 _ rfl
    have HI := Lib.hid hi
    clear H F hi hL
    go_wp2_with fail
    exact hK _ _ (Below.refl _ _) HI.out rfl
  · intro L a wy Q' hL hi H F hK
    try dsimp only at hi
    obtain ⟨_, h80, rfl⟩ := H 12 ⟨.guard, by simp, rfl⟩ _ rfl
    replace h80 := h80 _ rfl
    have h10 : a.tmps[10]? = some (.pointer (some ⟨xb, 0, none⟩)) := F 10 rfl
    have HI := Lib.hid hi
    clear H F hi hL
    go_wp2_with fail
    exact hK _ _ (Below.refl _ _) HI.out rfl
  · intro L a wy Q' hL hi H F hK
    try dsimp only at hi
    obtain ⟨_, h81, rfl⟩ := H 13 ⟨.data, by simp, rfl⟩ _ rfl
    replace h81 := h81 _ rfl
    obtain ⟨_, h80, rfl⟩ := H 12 ⟨.guard, by simp, rfl⟩ _ rfl
    replace h80 := h80 _ rfl
    have HI := Lib.hid hi
    clear H F hi hL
    have kq0 : wy.cell? ⟨xb, 3, none⟩ = some (.int .i64 0) := (Whole.under HI.out HXB.out (Whole.lt HXB.out)).cell 3
    go_wp2_with fail
    exact hK _ _ (Below.refl _ _) HI.out rfl
  · intro L a wy Q' hL hi H F hK
    try dsimp only at hi
    obtain ⟨_, h82, rfl⟩ := H 14 ⟨.data, by simp, rfl⟩ _ rfl
    replace h82 := h82 _ rfl
    obtain ⟨_, h80, rfl⟩ := H 12 ⟨.guard, by simp, rfl⟩ _ rfl
    replace h80 := h80 _ rfl
    have HI := Lib.hid hi
    clear H F hi hL
    go_wp2_with fail
    exact hK _ _ (Below.refl _ _) HI.out rfl
  · intro L a wy Q' hL hi H F hK
    try dsimp only at hi
    obtain ⟨_, h80, rfl⟩ := H 12 ⟨.data, by simp, rfl⟩ _ rfl
    replace h80 := h80 _ rfl
    obtain ⟨_, h83, rfl⟩ := H 15 ⟨.data, by simp, rfl⟩ _ rfl
    replace h83 := h83 _ rfl
    have HI := Lib.hid hi
    clear H F hi hL
    go_wp2_with fail
    exact hK _ _ (Below.refl _ _) HI.out rfl
  · intro L a wy Q' hL hi H F hK
    try dsimp only at hi
    obtain ⟨_, h84, rfl⟩ := H 16 ⟨.data, by simp, rfl⟩ _ rfl
    replace h84 := h84 _ rfl
    have HI := Lib.hid hi
    clear H F hi hL
    go_wp2_with fail
    exact hK _ _ (Below.refl _ _) HI.out rfl
  · intro L a wy Q' hL hi H F hK
    try dsimp only at hi
    obtain ⟨_, h85, rfl⟩ := H 17 ⟨.guard, by simp, rfl⟩ _ rfl
    replace h85 := h85 _ rfl
    have h11 : a.tmps[11]? = some (.int .u32 x.allow) := F 11 rfl
    have HI := Lib.hid hi
    clear H F hi hL
    go_wp2_with fail
    exact hK _ _ (Below.refl _ _) HI.out rfl
  · intro L a wy Q' hL hi H F hK
    try dsimp only at hi
    obtain ⟨_, h85, rfl⟩ := H 17 ⟨.guard, by simp, rfl⟩ _ rfl
    replace h85 := h85 _ rfl
    have h10 : a.tmps[10]? = some (.pointer (some ⟨xb, 0, none⟩)) := F 10 rfl
    have HI := Lib.hid hi
    clear H F hi hL
    go_wp2_with fail
    exact hK _ _ (Below.refl _ _) HI.out rfl
  · intro L a wy Q' hL hi H F hK
    try dsimp only at hi
    obtain ⟨_, h87, rfl⟩ := H 19 ⟨.data, by simp, rfl⟩ _ rfl
    replace h87 := h87 _ rfl
    obtain ⟨_, h85, rfl⟩ := H 17 ⟨.guard, by simp, rfl⟩ _ rfl
    replace h85 := h85 _ rfl
    have HI := Lib.hid hi
    clear H F hi hL
    have kq0 : wy.cell? ⟨xb, 4, none⟩ = some (.int .u32 x.allow) := (Whole.under HI.out HXB.out (Whole.lt HXB.out)).cell 4
    go_wp2_with fail
    exact hK _ _ (Below.refl _ _) HI.out rfl
  · intro L a wy Q' hL hi H F hK
    try dsimp only at hi
    obtain ⟨_, h86, rfl⟩ := H 18 ⟨.data, by simp, rfl⟩ _ rfl
    replace h86 := h86 _ rfl
    obtain ⟨_, h88, rfl⟩ := H 20 ⟨.data, by simp, rfl⟩ _ rfl
    replace h88 := h88 _ rfl
    obtain ⟨_, h85, rfl⟩ := H 17 ⟨.guard, by simp, rfl⟩ _ rfl
    replace h85 := h85 _ rfl
    have HI := Lib.hid hi
    clear H F hi hL
    go_wp2_with fail
    exact hK _ _ (Below.refl _ _) HI.out rfl
  · intro L a wy Q' hL hi H F hK
    try dsimp only at hi
    obtain ⟨_, h85, rfl⟩ := H 17 ⟨.data, by simp, rfl⟩ _ rfl
    replace h85 := h85 _ rfl
    obtain ⟨_, h89, rfl⟩ := H 21 ⟨.data, by simp, rfl⟩ _ rfl
    replace h89 := h89 _ rfl
    have HI := Lib.hid hi
    clear H F hi hL
    go_wp2_with fail
    exact hK _ _ (Below.refl _ _) HI.out rfl
  · intro L a wy Q' hL hi H F hK
    try dsimp only at hi
    obtain ⟨_, h90, rfl⟩ := H 22 ⟨.data, by simp, rfl⟩ _ rfl
    replace h90 := h90 _ rfl
    have HI := Lib.hid hi
    clear H F hi hL
    go_wp2_with fail
    exact hK _ _ (Below.refl _ _) HI.out rfl
  · intro L a wy Q' hL hi H F hK
    try dsimp only at hi
    obtain ⟨_, h91, rfl⟩ := H 23 ⟨.guard, by simp, rfl⟩ _ rfl
    replace h91 := h91 _ rfl
    have h12 : a.tmps[12]? = some (.int .u32 x.audit) := F 12 rfl
    have HI := Lib.hid hi
    clear H F hi hL
    go_wp2_with fail
    exact hK _ _ (Below.refl _ _) HI.out rfl
  · intro L a wy Q' hL hi H F hK
    try dsimp only at hi
    obtain ⟨_, h91, rfl⟩ := H 23 ⟨.guard, by simp, rfl⟩ _ rfl
    replace h91 := h91 _ rfl
    have h10 : a.tmps[10]? = some (.pointer (some ⟨xb, 0, none⟩)) := F 10 rfl
    have HI := Lib.hid hi
    clear H F hi hL
    go_wp2_with fail
    exact hK _ _ (Below.refl _ _) HI.out rfl
  · intro L a wy Q' hL hi H F hK
    try dsimp only at hi
    obtain ⟨_, h93, rfl⟩ := H 25 ⟨.data, by simp, rfl⟩ _ rfl
    replace h93 := h93 _ rfl
    obtain ⟨_, h91, rfl⟩ := H 23 ⟨.guard, by simp, rfl⟩ _ rfl
    replace h91 := h91 _ rfl
    have HI := Lib.hid hi
    clear H F hi hL
    have kq0 : wy.cell? ⟨xb, 5, none⟩ = some (.int .u32 x.audit) := (Whole.under HI.out HXB.out (Whole.lt HXB.out)).cell 5
    go_wp2_with fail
    exact hK _ _ (Below.refl _ _) HI.out rfl
  · intro L a wy Q' hL hi H F hK
    try dsimp only at hi
    obtain ⟨_, h92, rfl⟩ := H 24 ⟨.data, by simp, rfl⟩ _ rfl
    replace h92 := h92 _ rfl
    obtain ⟨_, h94, rfl⟩ := H 26 ⟨.data, by simp, rfl⟩ _ rfl
    replace h94 := h94 _ rfl
    obtain ⟨_, h91, rfl⟩ := H 23 ⟨.guard, by simp, rfl⟩ _ rfl
    replace h91 := h91 _ rfl
    have HI := Lib.hid hi
    clear H F hi hL
    go_wp2_with fail
    exact hK _ _ (Below.refl _ _) HI.out rfl
  · intro L a wy Q' hL hi H F hK
    try dsimp only at hi
    obtain ⟨_, h91, rfl⟩ := H 23 ⟨.data, by simp, rfl⟩ _ rfl
    replace h91 := h91 _ rfl
    obtain ⟨_, h95, rfl⟩ := H 27 ⟨.data, by simp, rfl⟩ _ rfl
    replace h95 := h95 _ rfl
    have HI := Lib.hid hi
    clear H F hi hL
    go_wp2_with fail
    exact hK _ _ (Below.refl _ _) HI.out rfl
  · intro L a wy Q' hL hi H F hK
    try dsimp only at hi
    obtain ⟨_, h96, rfl⟩ := H 28 ⟨.data, by simp, rfl⟩ _ rfl
    replace h96 := h96 _ rfl
    have HI := Lib.hid hi
    clear H F hi hL
    go_wp2_with fail
    exact hK _ _ (Below.refl _ _) HI.out rfl
  · intro L a wy Q' hL hi H F hK
    try dsimp only at hi
    obtain ⟨_, h97, rfl⟩ := H 29 ⟨.guard, by simp, rfl⟩ _ rfl
    replace h97 := h97 _ rfl
    have h13 : a.tmps[13]? = some (.int .u32 x.dont) := F 13 rfl
    have HI := Lib.hid hi
    clear H F hi hL
    go_wp2_with fail
    exact hK _ _ (Below.refl _ _) HI.out rfl
  · intro L a wy Q' hL hi H F hK
    try dsimp only at hi
    obtain ⟨_, h97, rfl⟩ := H 29 ⟨.guard, by simp, rfl⟩ _ rfl
    replace h97 := h97 _ rfl
    have h10 : a.tmps[10]? = some (.pointer (some ⟨xb, 0, none⟩)) := F 10 rfl
    have HI := Lib.hid hi
    clear H F hi hL
    go_wp2_with fail
    exact hK _ _ (Below.refl _ _) HI.out rfl
  · intro L a wy Q' hL hi H F hK
    try dsimp only at hi
    obtain ⟨_, h99, rfl⟩ := H 31 ⟨.data, by simp, rfl⟩ _ rfl
    replace h99 := h99 _ rfl
    obtain ⟨_, h97, rfl⟩ := H 29 ⟨.guard, by simp, rfl⟩ _ rfl
    replace h97 := h97 _ rfl
    have HI := Lib.hid hi
    clear H F hi hL
    have kq0 : wy.cell? ⟨xb, 6, none⟩ = some (.int .u32 x.dont) := (Whole.under HI.out HXB.out (Whole.lt HXB.out)).cell 6
    go_wp2_with fail
    exact hK _ _ (Below.refl _ _) HI.out rfl
  · intro L a wy Q' hL hi H F hK
    try dsimp only at hi
    obtain ⟨_, h98, rfl⟩ := H 30 ⟨.data, by simp, rfl⟩ _ rfl
    replace h98 := h98 _ rfl
    obtain ⟨_, h100, rfl⟩ := H 32 ⟨.data, by simp, rfl⟩ _ rfl
    replace h100 := h100 _ rfl
    obtain ⟨_, h97, rfl⟩ := H 29 ⟨.guard, by simp, rfl⟩ _ rfl
    replace h97 := h97 _ rfl
    have HI := Lib.hid hi
    clear H F hi hL
    go_wp2_with fail
    exact hK _ _ (Below.refl _ _) HI.out rfl
  · intro L a wy Q' hL hi H F hK
    try dsimp only at hi
    obtain ⟨_, h97, rfl⟩ := H 29 ⟨.data, by simp, rfl⟩ _ rfl
    replace h97 := h97 _ rfl
    obtain ⟨_, h101, rfl⟩ := H 33 ⟨.data, by simp, rfl⟩ _ rfl
    replace h101 := h101 _ rfl
    have HI := Lib.hid hi
    clear H F hi hL
    go_wp2_with fail
    exact hK _ _ (Below.refl _ _) HI.out rfl
  · intro L a wy Q' hL hi H F hK
    try dsimp only at hi
    obtain ⟨_, h102, rfl⟩ := H 34 ⟨.data, by simp, rfl⟩ _ rfl
    replace h102 := h102 _ rfl
    have HI := Lib.hid hi
    clear H F hi hL
    go_wp2_with fail
    exact hK _ _ (Below.refl _ _) HI.out rfl
  · intro L a wy Q' hL hi H F hK
    try dsimp only at hi
    obtain ⟨_, h103, rfl⟩ := H 35 ⟨.guard, by simp, rfl⟩ _ rfl
    replace h103 := h103 _ rfl
    have h11 : a.tmps[11]? = some (.int .u32 x.allow) := F 11 rfl
    have HI := Lib.hid hi
    clear H F hi hL
    go_wp2_with fail
    exact hK _ _ (Below.refl _ _) HI.out rfl
  · intro L a wy Q' hL hi H F hK
    try dsimp only at hi
    obtain ⟨_, h103, rfl⟩ := H 35 ⟨.guard, by simp, rfl⟩ _ rfl
    replace h103 := h103 _ rfl
    have h12 : a.tmps[12]? = some (.int .u32 x.audit) := F 12 rfl
    have HI := Lib.hid hi
    clear H F hi hL
    go_wp2_with fail
    exact hK _ _ (Below.refl _ _) HI.out rfl
  · intro L a wy Q' hL hi H F hK
    try dsimp only at hi
    obtain ⟨_, h104, rfl⟩ := H 36 ⟨.data, by simp, rfl⟩ _ rfl
    replace h104 := h104 _ rfl
    obtain ⟨_, h105, rfl⟩ := H 37 ⟨.data, by simp, rfl⟩ _ rfl
    replace h105 := h105 _ rfl
    obtain ⟨_, h103, rfl⟩ := H 35 ⟨.guard, by simp, rfl⟩ _ rfl
    replace h103 := h103 _ rfl
    have HI := Lib.hid hi
    clear H F hi hL
    go_wp2_with fail
    exact hK _ _ (Below.refl _ _) HI.out rfl
  · intro L a wy Q' hL hi H F hK
    try dsimp only at hi
    obtain ⟨_, h103, rfl⟩ := H 35 ⟨.guard, by simp, rfl⟩ _ rfl
    replace h103 := h103 _ rfl
    have h13 : a.tmps[13]? = some (.int .u32 x.dont) := F 13 rfl
    have HI := Lib.hid hi
    clear H F hi hL
    go_wp2_with fail
    exact hK _ _ (Below.refl _ _) HI.out rfl
  · intro L a wy Q' hL hi H F hK
    try dsimp only at hi
    obtain ⟨_, h106, rfl⟩ := H 38 ⟨.data, by simp, rfl⟩ _ rfl
    replace h106 := h106 _ rfl
    obtain ⟨_, h107, rfl⟩ := H 39 ⟨.data, by simp, rfl⟩ _ rfl
    replace h107 := h107 _ rfl
    obtain ⟨_, h103, rfl⟩ := H 35 ⟨.guard, by simp, rfl⟩ _ rfl
    replace h103 := h103 _ rfl
    have HI := Lib.hid hi
    clear H F hi hL
    go_wp2_with fail
    exact hK _ _ (Below.refl _ _) HI.out rfl
  · intro L a wy Q' hL hi H F hK
    try dsimp only at hi
    obtain ⟨_, h108, rfl⟩ := H 40 ⟨.data, by simp, rfl⟩ _ rfl
    replace h108 := h108 _ rfl
    obtain ⟨_, h103, rfl⟩ := H 35 ⟨.guard, by simp, rfl⟩ _ rfl
    replace h103 := h103 _ rfl
    have HI := Lib.hid hi
    clear H F hi hL
    go_wp2_with fail
    exact hK _ _ (Below.refl _ _) HI.out rfl
  · intro a wy L hl hi hL Q' hK
    try dsimp only at hi
    have HB := Lib.hid hi
    clear hi hL
    obtain ⟨_, rfl, _, rfl, _, rfl, _, rfl, _, rfl, _, rfl, _, rfl, _, rfl, _, rfl, _, rfl, _, rfl, _, rfl, _, rfl, _, rfl, _, rfl, _, rfl, _, rfl, _, rfl, _, rfl, _, rfl, _, rfl, _, rfl, _, rfl, _, rfl, _, rfl, _, rfl, _, rfl, _, rfl, _, rfl, _, rfl, _, rfl, _, rfl, _, rfl, _, rfl, _, rfl, _, rfl, _, rfl, _, rfl, _, rfl, _, rfl, _, rfl, _, rfl, rfl⟩ := hl
    simp only [List.setIfInBounds_toArray, List.set_cons_zero, List.set_cons_succ]
    go_wp2_with fail
    exact HEND.out _ _ _ _ _ _ _ _ _ _ _ _ _ _ _ _ _ _ _ _ _ _ _ _ _ _ _ _ _ _ _ _ _ _ _ _ _ _ _ _ _ _ _ HB.out
set_option maxRecDepth 100000 in
set_option maxHeartbeats 4000000 in
theorem mg18_f (w : World) (b off n c xb : Nat) (x : AEntry) (x0 x1 x2 x3 x4 x5 x6 x8 x14 x15 x16 x17 x18 x19 x20 x21 x22 x23 x24 x25 x26 x27 x28 x29 x30 x31 x32 x33 x34 x35 x36 x37 x38 x39 x40 x41 x42 x43 x44 x45 x46 x47 x48 x49 x50 x51 x52 x53 x54 x55 x56 x57 x58 x59 x60 x61 x62 x63 x64 x65 x66 x67 x68 x69 x70 x71 x72 x73 x74 x75 x76 x77 x78 x79 x80 x81 x82 x83 x84 x85 x86 x87 x88 x89 x90 x91 x92 x93 x94 x95 x96 x97 x98 x99 x100 x101 x102 x103 x104 x105 x106 x107 x108 x109 x110 x111 x112 x113 x114 x115 x116 x117 x118 x119 x120 x121 x122 x123 x124 x125 : Value) (HXB : Hid (Whole w xb 37 #[.int .i64 x.src, .int .i64 x.tgt, .int .i64 x.cls, .int .i64 0, .int .u32 x.allow, .int .u32 x.audit, .int .u32 x.dont])) (hz : (bits .or .u32 (bits .or .u32 x.allow x.audit) x.dont == 0) = false)
    {Q' : Exit → Act → World → Prop} (hend : ∀ (v68 v69 v70 v71 v72 v73 v74 v75 v76 v77 v78 v79 v80 v81 v82 v83 v84 v85 v86 v87 v88 v89 v90 v91 v92 v93 v94 v95 v96 v97 v98 v99 v100 v101 v102 v103 v104 v105 v106 v107 v108 v109 : Value) (w' : World), RowKit.Below w.heap.size w w' → Q' .normal ⟨#[x0, x1, x2, x3, x4, x5, x6, .slice (some ⟨b, off, none⟩) n c, x8, .int .i64 0, .pointer (some ⟨xb, 0, none⟩), .int .u32 x.allow, .int .u32 x.audit, .int .u32 x.dont, x14, x15, x16, x17, x18, x19, x20, x21, x22, x23, x24, x25, x26, x27, x28, x29, x30, x31, x32, x33, x34, x35, x36, x37, x38, x39, x40, x41, x42, x43, x44, x45, x46, x47, x48, x49, x50, x51, x52, x53, x54, x55, x56, x57, x58, x59, x60, x61, x62, x63, x64, x65, x66, x67, v68, v69, v70, v71, v72, v73, v74, v75, v76, v77, v78, v79, v80, v81, v82, v83, v84, v85, v86, v87, v88, v89, v90, v91, v92, v93, v94, v95, v96, v97, v98, v99, v100, v101, v102, v103, v104, v105, v106, v107, v108, v109, .bool false, x111, x112, x113, x114, x115, x116, x117, x118, x119, x120, x121, x122, x123, x124, x125], []⟩ w') :
    Code.wp Try.prog (findRegion7 18 ((Try.f5.body).getD .skip)) Q' ⟨#[x0, x1, x2, x3, x4, x5, x6, .slice (some ⟨b, off, none⟩) n c, x8, .int .i64 0, .pointer (some ⟨xb, 0, none⟩), .int .u32 x.allow, .int .u32 x.audit, .int .u32 x.dont, x14, x15, x16, x17, x18, x19, x20, x21, x22, x23, x24, x25, x26, x27, x28, x29, x30, x31, x32, x33, x34, x35, x36, x37, x38, x39, x40, x41, x42, x43, x44, x45, x46, x47, x48, x49, x50, x51, x52, x53, x54, x55, x56, x57, x58, x59, x60, x61, x62, x63, x64, x65, x66, x67, x68, x69, x70, x71, x72, x73, x74, x75, x76, x77, x78, x79, x80, x81, x82, x83, x84, x85, x86, x87, x88, x89, x90, x91, x92, x93, x94, x95, x96, x97, x98, x99, x100, x101, x102, x103, x104, x105, x106, x107, x108, x109, x110, x111, x112, x113, x114, x115, x116, x117, x118, x119, x120, x121, x122, x123, x124, x125], []⟩ w := by
  have HEND := Lib.hid hend
  clear hend
  conv => arg 2; whnf
  conv => arg 4; dsimp only
  refine wp_region_goods [some 68, some 69, some 70, some 71, some 72, some 73, some 74, some 75, some 76, some 77, some 78, some 79, some 80, some 81, some 82, some 83, some 84, some 85, some 86, some 87, some 88, some 89, some 90, some 91, some 92, some 93, some 94, some 95, some 96, some 97, some 98, some 99, some 100, some 101, some 102, some 103, some 104, some 105, some 106, some 107, some 108, some 109] [isW (.int .i64 0), isW (.bool false), isW (.bool false), isW (undef), isW (undef), isW (undef), isW (undef), isW (undef), isW (undef), isW (undef), isW (undef), isW (.bool false), isW (.bool false), isW (.pointer (some ⟨xb, 3, none⟩)), isW (.int .i64 0), isW (.bool false), isW (.bool false), isW (.bool false), isW (.int .u32 x.allow), isW (.pointer (some ⟨xb, 4, none⟩)), isW (.int .u32 x.allow), isW (.bool false), isW (.bool false), isW (.bool false), isW (.int .u32 x.audit), isW (.pointer (some ⟨xb, 5, none⟩)), isW (.int .u32 x.audit), isW (.bool false), isW (.bool false), isW (.bool false), isW (.int .u32 x.dont), isW (.pointer (some ⟨xb, 6, none⟩)), isW (.int .u32 x.dont), isW (.bool false), isW (.bool false), isW (.bool false), isW (.int .u32 x.allow), isW (.int .u32 x.audit), isW (.int .u32 (bits .or .u32 x.allow x.audit)), isW (.int .u32 x.dont), isW (.int .u32 (bits .or .u32 (bits .or .u32 x.allow x.audit) x.dont)), isW (.bool false)] (fun _ w' => RowKit.Below w.heap.size w w') [] (by kernel_rfl) (by kernel_rfl) (by kernel_rfl) rfl (by decide) rfl rfl ((Below.refl _ _).drew) ⟨lastsW_is _, lastsW_is _, lastsW_is _, lastsW_is _, lastsW_is _, lastsW_is _, lastsW_is _, lastsW_is _, lastsW_is _, lastsW_is _, lastsW_is _, lastsW_is _, lastsW_is _, lastsW_is _, lastsW_is _, lastsW_is _, lastsW_is _, lastsW_is _, lastsW_is _, lastsW_is _, lastsW_is _, lastsW_is _, lastsW_is _, lastsW_is _, lastsW_is _, lastsW_is _, lastsW_is _, lastsW_is _, lastsW_is _, lastsW_is _, lastsW_is _, lastsW_is _, lastsW_is _, lastsW_is _, lastsW_is _, lastsW_is _, lastsW_is _, lastsW_is _, lastsW_is _, lastsW_is _, lastsW_is _, lastsW_is _, trivial⟩ ⟨?_, ?_, ?_, ?_, ?_, ?_, ?_, ?_, ?_, ?_, ?_, ?_, ?_, ?_, ?_, ?_, ?_, ?_, ?_, ?_, ?_, ?_, ?_, ?_, ?_, ?_, ?_, ?_, ?_, ?_, ?_, ?_, ?_, ?_, ?_, ?_, ?_, ?_, ?_, ?_, ?_, ?_, ?_⟩
  · intro L a wy Q' hL hi H F hK
    try dsimp only at hi
    have h9 : a.tmps[9]? = some (.int .i64 0) := F 9 rfl
    have HI := Lib.hid hi
    clear H F hi hL
    go_wp2_with fail
    exact hK _ _ (Below.refl _ _) HI.out rfl
  · intro L a wy Q' hL hi H F hK
    try dsimp only at hi
    obtain ⟨_, h68, rfl⟩ := H 0 ⟨.data, by simp, rfl⟩ _ rfl
    replace h68 := h68 _ rfl
    have HI := Lib.hid hi
    clear H F hi hL
    go_wp2_with fail
    exact hK _ _ (Below.refl _ _) HI.out rfl
  · intro L a wy Q' hL hi H F hK
    try dsimp only at hi
    obtain ⟨_, h69, rfl⟩ := H 1 ⟨.data, by simp, rfl⟩ _ rfl
    replace h69 := h69 _ rfl
    have HI := Lib.hid hi
    clear H F hi hL
    go_wp2_with fail
    exact hK _ _ (Below.refl _ _) HI.out rfl
  · intro L a wy Q' hL hi H F hK
    try dsimp only at hi
    obtain ⟨_, h70, rfl⟩ := H 2 ⟨.guard, by simp, rfl⟩ _ rfl
    replace h70 := h70 _ rfl
    have h7 : a.tmps[7]? = some (.slice (some ⟨b, off, none⟩) n c) := F 7 rfl
    have HI := Lib.hid hi
    clear H F hi hL
    refine wpList_skip (by simp [Region.wanted, yielded, h70]) ?_
    exact hK _ _ (Below.refl _ _) HI.out rfl
  · intro L a wy Q' hL hi H F hK
    try dsimp only at hi
    obtain ⟨_, h70, rfl⟩ := H 2 ⟨.guard, by simp, rfl⟩ _ rfl
    replace h70 := h70 _ rfl
    have h9 : a.tmps[9]? = some (.int .i64 0) := F 9 rfl
    have HI := Lib.hid hi
    clear H F hi hL
    refine wpList_skip (by simp [Region.wanted, yielded, h70]) ?_
    exact hK _ _ (Below.refl _ _) HI.out rfl
  · intro L a wy Q' hL hi H F hK
    try dsimp only at hi
    obtain ⟨_, h72, rfl⟩ := H 4 ⟨.data, by simp, rfl⟩ _ rfl
    replace h72 := h72 _ rfl
    obtain ⟨_, h70, rfl⟩ := H 2 ⟨.guard, by simp, rfl⟩ _ rfl
    replace h70 := h70 _ rfl
    have HI := Lib.hid hi
    clear H F hi hL
    refine wpList_skip (by simp [Region.wanted, yielded, h70]) ?_
    exact hK _ _ (Below.refl _ _) HI.out rfl
  · intro L a wy Q' hL hi H F hK
    try dsimp only at hi
    obtain ⟨_, h71, rfl⟩ := H 3 ⟨.data, by simp, rfl⟩ _ rfl
    replace h71 := h71 _ rfl
    obtain ⟨_, h73, rfl⟩ := H 5 ⟨.data, by simp, rfl⟩ _ rfl
    replace h73 := h73 _ rfl
    obtain ⟨_, h70, rfl⟩ := H 2 ⟨.guard, by simp, rfl⟩ _ rfl
    replace h70 := h70 _ rfl
    have HI := Lib.hid hi
    clear H F hi hL
    refine wpList_skip (by simp [Region.wanted, yielded, h70]) ?_
    exact hK _ _ (Below.refl _ _) HI.out rfl
  · intro L a wy Q' hL hi H F hK
    try dsimp only at hi
    obtain ⟨_, h74, rfl⟩ := H 6 ⟨.data, by simp, rfl⟩ _ rfl
    replace h74 := h74 _ rfl
    obtain ⟨_, h70, rfl⟩ := H 2 ⟨.guard, by simp, rfl⟩ _ rfl
    replace h70 := h70 _ rfl
    have HI := Lib.hid hi
    clear H F hi hL
    refine wpList_skip (by simp [Region.wanted, yielded, h70]) ?_
    exact hK _ _ (Below.refl _ _) HI.out rfl
  · intro L a wy Q' hL hi H F hK
    try dsimp only at hi
    obtain ⟨_, h70, rfl⟩ := H 2 ⟨.guard, by simp, rfl⟩ _ rfl
    replace h70 := h70 _ rfl
    have h10 : a.tmps[10]? = some (.pointer (some ⟨xb, 0, none⟩)) := F 10 rfl
    have HI := Lib.hid hi
    clear H F hi hL
    refine wpList_skip (by simp [Region.wanted, yielded, h70]) ?_
    exact hK _ _ (Below.refl _ _) HI.out rfl
  · intro L a wy Q' hL hi H F hK
    try dsimp only at hi
    obtain ⟨_, h75, rfl⟩ := H 7 ⟨.data, by simp, rfl⟩ _ rfl
    replace h75 := h75 _ rfl
    obtain ⟨_, h76, rfl⟩ := H 8 ⟨.data, by simp, rfl⟩ _ rfl
    replace h76 := h76 _ rfl
    obtain ⟨_, h70, rfl⟩ := H 2 ⟨.guard, by simp, rfl⟩ _ rfl
    replace h70 := h70 _ rfl
    have HI := Lib.hid hi
    clear H F hi hL
    refine wpList_skip (by simp [Region.wanted, yielded, h70]) ?_
    exact hK _ _ (Below.refl _ _) HI.out rfl
  · intro L a wy Q' hL hi H F hK
    try dsimp only at hi
    obtain ⟨_, h77, rfl⟩ := H 9 ⟨.data, by simp, rfl⟩ _ rfl
    replace h77 := h77 _ rfl
    obtain ⟨_, h70, rfl⟩ := H 2 ⟨.guard, by simp, rfl⟩ _ rfl
    replace h70 := h70 _ rfl
    have HI := Lib.hid hi
    clear H F hi hL
    refine wpList_skip (by simp [Region.wanted, yielded, h70]) ?_
    exact hK _ _ (Below.refl _ _) HI.out rfl
  · intro L a wy Q' hL hi H F hK
    try dsimp only at hi
    obtain ⟨_, h70, rfl⟩ := H 2 ⟨.data, by simp, rfl⟩ _ rfl
    replace h70 := h70 _ rfl
    obtain ⟨_, h78, rfl⟩ := H 10 ⟨.data, by simp, rfl⟩ _ rfl
    replace h78 := h78 _ rfl
    have HI := Lib.hid hi
    clear H F hi hL
    go_wp2_with fail
    exact hK _ _ (Below.refl _ _) HI.out rfl
  · intro L a wy Q' hL hi H F hK
    try dsimp only at hi
    obtain ⟨_, h79, rfl⟩ := H 11 ⟨.data, by simp, rfl⟩ _ rfl
    replace h79 := h79 _ rfl
    have HI := Lib.hid hi
    clear H F hi hL
    go_wp2_with fail
    exact hK _ _ (Below.refl _ _) HI.out rfl
  · intro L a wy Q' hL hi H F hK
    try dsimp only at hi
    obtain ⟨_, h80, rfl⟩ := H 12 ⟨.guard, by simp, rfl⟩ _ rfl
    replace h80 := h80 _ rfl
    have h10 : a.tmps[10]? = some (.pointer (some ⟨xb, 0, none⟩)) := F 10 rfl
    have HI := Lib.hid hi
    clear H F hi hL
    go_wp2_with fail
    exact hK _ _ (Below.refl _ _) HI.out rfl
  · intro L a wy Q' hL hi H F hK
    try dsimp only at hi
    obtain ⟨_, h81, rfl⟩ := H 13 ⟨.data, by simp, rfl⟩ _ rfl
    replace h81 := h81 _ rfl
    obtain ⟨_, h80, rfl⟩ := H 12 ⟨.guard, by simp, rfl⟩ _ rfl
    replace h80 := h80 _ rfl
    have HI := Lib.hid hi
    clear H F hi hL
    have kq0 : wy.cell? ⟨xb, 3, none⟩ = some (.int .i64 0) := (Whole.under HI.out HXB.out (Whole.lt HXB.out)).cell 3
    go_wp2_with fail
    exact hK _ _ (Below.refl _ _) HI.out rfl
  · intro L a wy Q' hL hi H F hK
    try dsimp only at hi
    obtain ⟨_, h82, rfl⟩ := H 14 ⟨.data, by simp, rfl⟩ _ rfl
    replace h82 := h82 _ rfl
    obtain ⟨_, h80, rfl⟩ := H 12 ⟨.guard, by simp, rfl⟩ _ rfl
    replace h80 := h80 _ rfl
    have HI := Lib.hid hi
    clear H F hi hL
    go_wp2_with fail
    exact hK _ _ (Below.refl _ _) HI.out rfl
  · intro L a wy Q' hL hi H F hK
    try dsimp only at hi
    obtain ⟨_, h80, rfl⟩ := H 12 ⟨.data, by simp, rfl⟩ _ rfl
    replace h80 := h80 _ rfl
    obtain ⟨_, h83, rfl⟩ := H 15 ⟨.data, by simp, rfl⟩ _ rfl
    replace h83 := h83 _ rfl
    have HI := Lib.hid hi
    clear H F hi hL
    go_wp2_with fail
    exact hK _ _ (Below.refl _ _) HI.out rfl
  · intro L a wy Q' hL hi H F hK
    try dsimp only at hi
    obtain ⟨_, h84, rfl⟩ := H 16 ⟨.data, by simp, rfl⟩ _ rfl
    replace h84 := h84 _ rfl
    have HI := Lib.hid hi
    clear H F hi hL
    go_wp2_with fail
    exact hK _ _ (Below.refl _ _) HI.out rfl
  · intro L a wy Q' hL hi H F hK
    try dsimp only at hi
    obtain ⟨_, h85, rfl⟩ := H 17 ⟨.guard, by simp, rfl⟩ _ rfl
    replace h85 := h85 _ rfl
    have h11 : a.tmps[11]? = some (.int .u32 x.allow) := F 11 rfl
    have HI := Lib.hid hi
    clear H F hi hL
    go_wp2_with fail
    exact hK _ _ (Below.refl _ _) HI.out rfl
  · intro L a wy Q' hL hi H F hK
    try dsimp only at hi
    obtain ⟨_, h85, rfl⟩ := H 17 ⟨.guard, by simp, rfl⟩ _ rfl
    replace h85 := h85 _ rfl
    have h10 : a.tmps[10]? = some (.pointer (some ⟨xb, 0, none⟩)) := F 10 rfl
    have HI := Lib.hid hi
    clear H F hi hL
    go_wp2_with fail
    exact hK _ _ (Below.refl _ _) HI.out rfl
  · intro L a wy Q' hL hi H F hK
    try dsimp only at hi
    obtain ⟨_, h87, rfl⟩ := H 19 ⟨.data, by simp, rfl⟩ _ rfl
    replace h87 := h87 _ rfl
    obtain ⟨_, h85, rfl⟩ := H 17 ⟨.guard, by simp, rfl⟩ _ rfl
    replace h85 := h85 _ rfl
    have HI := Lib.hid hi
    clear H F hi hL
    have kq0 : wy.cell? ⟨xb, 4, none⟩ = some (.int .u32 x.allow) := (Whole.under HI.out HXB.out (Whole.lt HXB.out)).cell 4
    go_wp2_with fail
    exact hK _ _ (Below.refl _ _) HI.out rfl
  · intro L a wy Q' hL hi H F hK
    try dsimp only at hi
    obtain ⟨_, h86, rfl⟩ := H 18 ⟨.data, by simp, rfl⟩ _ rfl
    replace h86 := h86 _ rfl
    obtain ⟨_, h88, rfl⟩ := H 20 ⟨.data, by simp, rfl⟩ _ rfl
    replace h88 := h88 _ rfl
    obtain ⟨_, h85, rfl⟩ := H 17 ⟨.guard, by simp, rfl⟩ _ rfl
    replace h85 := h85 _ rfl
    have HI := Lib.hid hi
    clear H F hi hL
    go_wp2_with fail
    exact hK _ _ (Below.refl _ _) HI.out rfl
  · intro L a wy Q' hL hi H F hK
    try dsimp only at hi
    obtain ⟨_, h85, rfl⟩ := H 17 ⟨.data, by simp, rfl⟩ _ rfl
    replace h85 := h85 _ rfl
    obtain ⟨_, h89, rfl⟩ := H 21 ⟨.data, by simp, rfl⟩ _ rfl
    replace h89 := h89 _ rfl
    have HI := Lib.hid hi
    clear H F hi hL
    go_wp2_with fail
    exact hK _ _ (Below.refl _ _) HI.out rfl
  · intro L a wy Q' hL hi H F hK
    try dsimp only at hi
    obtain ⟨_, h90, rfl⟩ := H 22 ⟨.data, by simp, rfl⟩ _ rfl
    replace h90 := h90 _ rfl
    have HI := Lib.hid hi
    clear H F hi hL
    go_wp2_with fail
    exact hK _ _ (Below.refl _ _) HI.out rfl
  · intro L a wy Q' hL hi H F hK
    try dsimp only at hi
    obtain ⟨_, h91, rfl⟩ := H 23 ⟨.guard, by simp, rfl⟩ _ rfl
    replace h91 := h91 _ rfl
    have h12 : a.tmps[12]? = some (.int .u32 x.audit) := F 12 rfl
    have HI := Lib.hid hi
    clear H F hi hL
    go_wp2_with fail
    exact hK _ _ (Below.refl _ _) HI.out rfl
  · intro L a wy Q' hL hi H F hK
    try dsimp only at hi
    obtain ⟨_, h91, rfl⟩ := H 23 ⟨.guard, by simp, rfl⟩ _ rfl
    replace h91 := h91 _ rfl
    have h10 : a.tmps[10]? = some (.pointer (some ⟨xb, 0, none⟩)) := F 10 rfl
    have HI := Lib.hid hi
    clear H F hi hL
    go_wp2_with fail
    exact hK _ _ (Below.refl _ _) HI.out rfl
  · intro L a wy Q' hL hi H F hK
    try dsimp only at hi
    obtain ⟨_, h93, rfl⟩ := H 25 ⟨.data, by simp, rfl⟩ _ rfl
    replace h93 := h93 _ rfl
    obtain ⟨_, h91, rfl⟩ := H 23 ⟨.guard, by simp, rfl⟩ _ rfl
    replace h91 := h91 _ rfl
    have HI := Lib.hid hi
    clear H F hi hL
    have kq0 : wy.cell? ⟨xb, 5, none⟩ = some (.int .u32 x.audit) := (Whole.under HI.out HXB.out (Whole.lt HXB.out)).cell 5
    go_wp2_with fail
    exact hK _ _ (Below.refl _ _) HI.out rfl
  · intro L a wy Q' hL hi H F hK
    try dsimp only at hi
    obtain ⟨_, h92, rfl⟩ := H 24 ⟨.data, by simp, rfl⟩ _ rfl
    replace h92 := h92 _ rfl
    obtain ⟨_, h94, rfl⟩ := H 26 ⟨.data, by simp, rfl⟩ _ rfl
    replace h94 := h94 _ rfl
    obtain ⟨_, h91, rfl⟩ := H 23 ⟨.guard, by simp, rfl⟩ _ rfl
    replace h91 := h91 _ rfl
    have HI := Lib.hid hi
    clear H F hi hL
    go_wp2_with fail
    exact hK _ _ (Below.refl _ _) HI.out rfl
  · intro L a wy Q' hL hi H F hK
    try dsimp only at hi
    obtain ⟨_, h91, rfl⟩ := H 23 ⟨.data, by simp, rfl⟩ _ rfl
    replace h91 := h91 _ rfl
    obtain ⟨_, h95, rfl⟩ := H 27 ⟨.data, by simp, rfl⟩ _ rfl
    replace h95 := h95 _ rfl
    have HI := Lib.hid hi
    clear H F hi hL
    go_wp2_with fail
    exact hK _ _ (Below.refl _ _) HI.out rfl
  · intro L a wy Q' hL hi H F hK
    try dsimp only at hi
    obtain ⟨_, h96, rfl⟩ := H 28 ⟨.data, by simp, rfl⟩ _ rfl
    replace h96 := h96 _ rfl
    have HI := Lib.hid hi
    clear H F hi hL
    go_wp2_with fail
    exact hK _ _ (Below.refl _ _) HI.out rfl
  · intro L a wy Q' hL hi H F hK
    try dsimp only at hi
    obtain ⟨_, h97, rfl⟩ := H 29 ⟨.guard, by simp, rfl⟩ _ rfl
    replace h97 := h97 _ rfl
    have h13 : a.tmps[13]? = some (.int .u32 x.dont) := F 13 rfl
    have HI := Lib.hid hi
    clear H F hi hL
    go_wp2_with fail
    exact hK _ _ (Below.refl _ _) HI.out rfl
  · intro L a wy Q' hL hi H F hK
    try dsimp only at hi
    obtain ⟨_, h97, rfl⟩ := H 29 ⟨.guard, by simp, rfl⟩ _ rfl
    replace h97 := h97 _ rfl
    have h10 : a.tmps[10]? = some (.pointer (some ⟨xb, 0, none⟩)) := F 10 rfl
    have HI := Lib.hid hi
    clear H F hi hL
    go_wp2_with fail
    exact hK _ _ (Below.refl _ _) HI.out rfl
  · intro L a wy Q' hL hi H F hK
    try dsimp only at hi
    obtain ⟨_, h99, rfl⟩ := H 31 ⟨.data, by simp, rfl⟩ _ rfl
    replace h99 := h99 _ rfl
    obtain ⟨_, h97, rfl⟩ := H 29 ⟨.guard, by simp, rfl⟩ _ rfl
    replace h97 := h97 _ rfl
    have HI := Lib.hid hi
    clear H F hi hL
    have kq0 : wy.cell? ⟨xb, 6, none⟩ = some (.int .u32 x.dont) := (Whole.under HI.out HXB.out (Whole.lt HXB.out)).cell 6
    go_wp2_with fail
    exact hK _ _ (Below.refl _ _) HI.out rfl
  · intro L a wy Q' hL hi H F hK
    try dsimp only at hi
    obtain ⟨_, h98, rfl⟩ := H 30 ⟨.data, by simp, rfl⟩ _ rfl
    replace h98 := h98 _ rfl
    obtain ⟨_, h100, rfl⟩ := H 32 ⟨.data, by simp, rfl⟩ _ rfl
    replace h100 := h100 _ rfl
    obtain ⟨_, h97, rfl⟩ := H 29 ⟨.guard, by simp, rfl⟩ _ rfl
    replace h97 := h97 _ rfl
    have HI := Lib.hid hi
    clear H F hi hL
    go_wp2_with fail
    exact hK _ _ (Below.refl _ _) HI.out rfl
  · intro L a wy Q' hL hi H F hK
    try dsimp only at hi
    obtain ⟨_, h97, rfl⟩ := H 29 ⟨.data, by simp, rfl⟩ _ rfl
    replace h97 := h97 _ rfl
    obtain ⟨_, h101, rfl⟩ := H 33 ⟨.data, by simp, rfl⟩ _ rfl
    replace h101 := h101 _ rfl
    have HI := Lib.hid hi
    clear H F hi hL
    go_wp2_with fail
    exact hK _ _ (Below.refl _ _) HI.out rfl
  · intro L a wy Q' hL hi H F hK
    try dsimp only at hi
    obtain ⟨_, h102, rfl⟩ := H 34 ⟨.data, by simp, rfl⟩ _ rfl
    replace h102 := h102 _ rfl
    have HI := Lib.hid hi
    clear H F hi hL
    go_wp2_with fail
    exact hK _ _ (Below.refl _ _) HI.out rfl
  · intro L a wy Q' hL hi H F hK
    try dsimp only at hi
    obtain ⟨_, h103, rfl⟩ := H 35 ⟨.guard, by simp, rfl⟩ _ rfl
    replace h103 := h103 _ rfl
    have h11 : a.tmps[11]? = some (.int .u32 x.allow) := F 11 rfl
    have HI := Lib.hid hi
    clear H F hi hL
    go_wp2_with fail
    exact hK _ _ (Below.refl _ _) HI.out rfl
  · intro L a wy Q' hL hi H F hK
    try dsimp only at hi
    obtain ⟨_, h103, rfl⟩ := H 35 ⟨.guard, by simp, rfl⟩ _ rfl
    replace h103 := h103 _ rfl
    have h12 : a.tmps[12]? = some (.int .u32 x.audit) := F 12 rfl
    have HI := Lib.hid hi
    clear H F hi hL
    go_wp2_with fail
    exact hK _ _ (Below.refl _ _) HI.out rfl
  · intro L a wy Q' hL hi H F hK
    try dsimp only at hi
    obtain ⟨_, h104, rfl⟩ := H 36 ⟨.data, by simp, rfl⟩ _ rfl
    replace h104 := h104 _ rfl
    obtain ⟨_, h105, rfl⟩ := H 37 ⟨.data, by simp, rfl⟩ _ rfl
    replace h105 := h105 _ rfl
    obtain ⟨_, h103, rfl⟩ := H 35 ⟨.guard, by simp, rfl⟩ _ rfl
    replace h103 := h103 _ rfl
    have HI := Lib.hid hi
    clear H F hi hL
    go_wp2_with fail
    exact hK _ _ (Below.refl _ _) HI.out rfl
  · intro L a wy Q' hL hi H F hK
    try dsimp only at hi
    obtain ⟨_, h103, rfl⟩ := H 35 ⟨.guard, by simp, rfl⟩ _ rfl
    replace h103 := h103 _ rfl
    have h13 : a.tmps[13]? = some (.int .u32 x.dont) := F 13 rfl
    have HI := Lib.hid hi
    clear H F hi hL
    go_wp2_with fail
    exact hK _ _ (Below.refl _ _) HI.out rfl
  · intro L a wy Q' hL hi H F hK
    try dsimp only at hi
    obtain ⟨_, h106, rfl⟩ := H 38 ⟨.data, by simp, rfl⟩ _ rfl
    replace h106 := h106 _ rfl
    obtain ⟨_, h107, rfl⟩ := H 39 ⟨.data, by simp, rfl⟩ _ rfl
    replace h107 := h107 _ rfl
    obtain ⟨_, h103, rfl⟩ := H 35 ⟨.guard, by simp, rfl⟩ _ rfl
    replace h103 := h103 _ rfl
    have HI := Lib.hid hi
    clear H F hi hL
    go_wp2_with fail
    exact hK _ _ (Below.refl _ _) HI.out rfl
  · intro L a wy Q' hL hi H F hK
    try dsimp only at hi
    obtain ⟨_, h108, rfl⟩ := H 40 ⟨.data, by simp, rfl⟩ _ rfl
    replace h108 := h108 _ rfl
    obtain ⟨_, h103, rfl⟩ := H 35 ⟨.guard, by simp, rfl⟩ _ rfl
    replace h103 := h103 _ rfl
    have HI := Lib.hid hi
    clear H F hi hL
    go_wp2_with fail
    exact hK _ _ (Below.refl _ _) HI.out rfl
  · intro a wy L hl hi hL Q' hK
    try dsimp only at hi
    have HB := Lib.hid hi
    clear hi hL
    obtain ⟨_, rfl, _, rfl, _, rfl, _, rfl, _, rfl, _, rfl, _, rfl, _, rfl, _, rfl, _, rfl, _, rfl, _, rfl, _, rfl, _, rfl, _, rfl, _, rfl, _, rfl, _, rfl, _, rfl, _, rfl, _, rfl, _, rfl, _, rfl, _, rfl, _, rfl, _, rfl, _, rfl, _, rfl, _, rfl, _, rfl, _, rfl, _, rfl, _, rfl, _, rfl, _, rfl, _, rfl, _, rfl, _, rfl, _, rfl, _, rfl, _, rfl, _, rfl, rfl⟩ := hl
    simp only [List.setIfInBounds_toArray, List.set_cons_zero, List.set_cons_succ]
    go_wp2_with fail
    exact HEND.out _ _ _ _ _ _ _ _ _ _ _ _ _ _ _ _ _ _ _ _ _ _ _ _ _ _ _ _ _ _ _ _ _ _ _ _ _ _ _ _ _ _ _ HB.out
theorem vecs_or {x : AEntry} (hok : x.Ok) (hne : x.vecs ≠ AVec.zero) : (bits .or .u32 (bits .or .u32 x.allow x.audit) x.dont == 0) = false := by
  rw [beq_eq_false_iff_ne]
  intro h
  have h1 := or_eq_zero32 (or_u32 _ _) hok.2.dont h
  have h2 := or_eq_zero32 hok.2.allow hok.2.audit h1.1
  apply hne
  show (⟨x.allow, x.audit, x.dont⟩ : AVec) = ⟨0, 0, 0⟩
  rw [AVec.mk.injEq]
  exact ⟨h2.1, h2.2, h1.2⟩
theorem seen_ok {L : List AEntry} {vals : List Bool} (h : ∀ x ∈ L, x.Ok) : ∀ x ∈ seenOf L vals, x.Ok := fun x hx => by
  obtain ⟨y, hy, rfl⟩ := List.mem_map.1 hx
  have hy' := h y (List.mem_filter.1 hy).1
  exact ⟨⟨hy'.1.src, hy'.1.tgt, hy'.1.cls, (⟨by decide, by decide⟩ : I64 0)⟩, hy'.2⟩
theorem seen_some {L : List AEntry} {vals : List Bool} (h : ∀ x ∈ L, x.Ok) : ∀ x ∈ seenL L vals, x.vecs ≠ AVec.zero := fun x hx => by
  have h1 := ((joinL_canon (seen_ok (vals := vals) h)).mem x).1 hx
  rw [h1.1]
  exact h1.2
set_option maxRecDepth 100000 in
set_option maxHeartbeats 8000000 in
theorem merges_any (w : World) (lv vv : Value) (l : List AEntry) (vals : List Bool) (hl : SliceAt w lv 7 l.length (l.flatMap AEntry.cells)) (hv : SliceAt w vv 1 vals.length (vals.map aBool)) (hok : ∀ x ∈ l, x.Ok) :
    Calls Try.prog 5 #[lv, vv] w fun e w' => e = .returned (.bool true) ∧ RowKit.Below w.heap.size w w' := by
  have HL := Lib.hid hl
  have HV := Lib.hid hv
  obtain ⟨la, lc, rfl⟩ := hl.shape
  obtain ⟨va, vc, rfl⟩ := hv.shape
  have HLG := Lib.hid (large_any w la va none l.length vals.length 0 lc vc 0)
  obtain ⟨r, hr⟩ : ∃ r, r = decide (300 < l.length ∨ 100 < vals.length ∨ 20 < 0) := ⟨_, rfl⟩
  rw [← hr] at HLG
  have HR := Lib.hid hr
  have HNW := Lib.hid (fun h => new_any w _ l HL.out hok h)
  clear hl hv hok hr
  cases r with
  | true =>
    go_enter Try.func5, Try.ntmps5
    go_wp2_with (first | (go_at_call 8; go_must (refine HLG.out.mono ?_; rintro e w1 ⟨rfl, rfl⟩; skip)) | (go_at_call 9; go_must (refine (alive_any w).mono ?_; rintro e w2 ⟨rfl, hb⟩; have HB2 := Lib.hid hb; clear hb)))
    go_ret
    exact ⟨ret_val rfl, HB2.out⟩
  | false =>
    have hsz : ¬ (300 < l.length ∨ 100 < vals.length ∨ 20 < 0) := of_decide_eq_false HR.out.symm
    have HLN := Lib.hid (show l.length ≤ 300 by omega)
    have HVN := Lib.hid (show vals.length ≤ 1000000 by omega)
    have HNW := Lib.hid (HNW.out (by omega))
    clear hsz
    go_enter Try.func5, Try.ntmps5
    go_upto_region 4 with (first | (go_at_call 8; go_must (refine HLG.out.mono ?_; rintro e w0 ⟨rfl, rfl⟩; skip)) | (go_at_call 10; go_must (refine HNW.out.mono ?_; rintro e w1 ⟨tb, rfl, ht, hb⟩; have HT1 := Lib.hid ht; have HB1 := Lib.hid hb; clear ht hb)))
    obtain ⟨J, hJ⟩ : ∃ J, J = joinL l := ⟨_, rfl⟩
    have HJL := Lib.hid (show J.length ≤ 300 by rw [hJ]; have := joinL_length l; have := HLN.out; omega)
    rw [← hJ] at HT1
    have HTL := Lib.hid (show w.heap.size ≤ tb from HT1.out.lo)
    clear hJ
    have HA1 := Lib.hid (activate_any w1 _ tb _ J _ [] vals HT1.out (HV.out.keep HB1.out) (Nat.le_trans HJL.out (by decide)) HVN.out)
    go_upto_region 7 with (go_at_call 13; go_must (refine HA1.out.mono ?_; rintro e w2 ⟨rfl, ht, hg⟩; have HT2 := Lib.hid ht; have HG2 := Lib.hid hg; clear ht hg))
    have HBw2 := Lib.hid (HB1.out.grown HG2.out HB1.out.size (fun q hq => by cases hq; exact HTL.out))
    obtain ⟨S, hS⟩ : ∃ S, S = seenL J vals := ⟨_, rfl⟩
    have HSJ := Lib.hid (show S.length ≤ J.length by rw [hS]; have h1 := joinL_length (seenOf J vals); have h2 := seenOf_length J vals; unfold seenL; omega)
    have HSB := Lib.hid (show ∀ x ∈ S, x.cond = 0 by rw [hS]; exact seen_bare J vals)
    have HSN := Lib.hid (show ∀ x ∈ S, x.vecs ≠ AVec.zero by rw [hS]; exact seen_some (tab_ok HT2.out))
    rw [← hS] at HT2
    clear hS
    obtain ⟨_, _, _, _, hja, hjs, _⟩ := HT2.out.ex
    have HJO := Lib.hid hja.ord
    have HSO := Lib.hid hjs.ord
    have HSK := Lib.hid hjs.ok
    clear hja hjs
    have HE1 := Lib.hid (tentries_any w2 _ tb J S vals HT2.out (Nat.le_trans HJL.out (by decide)))
    obtain ⟨nj, hnj⟩ : ∃ nj, nj = J.length := ⟨_, rfl⟩
    obtain ⟨ns, hns⟩ : ∃ ns, ns = S.length := ⟨_, rfl⟩
    rw [← hnj] at HE1 HJL HSJ
    rw [← hns] at HSJ
    have HNJ := Lib.hid hnj
    have HNS := Lib.hid hns
    have hnjl := HJL.out
    have hsj := HSJ.out
    clear hnj hns
    go_upto_region 8 with (first
      | (have hZ := HE1; clear hZ; (go_at_call 16; go_must (refine HE1.out.mono ?_; rintro e w3 ⟨v3, rfl, ho, hb⟩; obtain ⟨ja, jc, rfl⟩ := own_shape ho; have HO3 := Lib.hid ho; have HB3 := Lib.hid hb; have HV1 := Lib.hid (tvisible_any w3 _ tb J S vals (HT2.out.keep hb) (by rw [← HNS.out]; omega)); rw [← HNS.out] at HV1; clear ho hb HE1)))
      | (have hZ := HV1; clear hZ; (go_at_call 17; go_must (refine HV1.out.mono ?_; rintro e w4 ⟨v4, rfl, ho, hb⟩; obtain ⟨sa, sc, rfl⟩ := own_shape ho; have HO4 := Lib.hid ho; have HJ4 := Lib.hid (own_keep hb HO3.out (Nat.le_refl _)); have HB4 := Lib.hid (HB3.out.trans (hb.mono HB3.out.size)); clear ho hb HV1))))
    have HT4 := Lib.hid (HT2.out.keep HB4.out)
    have HBw4 := Lib.hid (HBw2.out.trans (HB4.out.mono HBw2.out.size))
    have HJS := Lib.hid (SliceAt.of_own HJ4.out (ecells_one _))
    have HSS := Lib.hid (SliceAt.of_own HO4.out (ecells_one _))
    have HEJ := Lib.hid (show ∀ W, RowKit.Below w4.heap.size w4 W → ∀ i y, J[i]? = some y → ∃ b off, ja = some ⟨b, off, none⟩ ∧ ∀ j u, y.cells[j]? = some u → W.cell? ⟨b, off + i * 7 + j, none⟩ = some u from fun W hW i y hy => by
      obtain ⟨a0, c0, e0, -, -, hcell⟩ := HJS.out.form (by decide)
      cases e0
      obtain ⟨b, off, e1, hcl⟩ := hcell i (by rw [HNJ.out]; exact (List.getElem?_eq_some_iff.1 hy).1)
      exact ⟨b, off, e1, fun j u hu => cell_later hW (hcl j u (by rw [flat_at entry_len hy j (by exact (List.getElem?_eq_some_iff.1 hu).1)]; exact hu))⟩)
    have HES := Lib.hid (show ∀ W, RowKit.Below w4.heap.size w4 W → ∀ i y, S[i]? = some y → ∃ b off, sa = some ⟨b, off, none⟩ ∧ ∀ j u, y.cells[j]? = some u → W.cell? ⟨b, off + i * 7 + j, none⟩ = some u from fun W hW i y hy => by
      obtain ⟨a0, c0, e0, -, -, hcell⟩ := HSS.out.form (by decide)
      cases e0
      obtain ⟨b, off, e1, hcl⟩ := hcell i (by rw [HNS.out]; exact (List.getElem?_eq_some_iff.1 hy).1)
      exact ⟨b, off, e1, fun j u hu => cell_later hW (hcl j u (by rw [flat_at entry_len hy j (by exact (List.getElem?_eq_some_iff.1 hu).1)]; exact hu))⟩)
    clear HJS HSS HO3 HJ4 HO4
    go_wp2_with fail
    go_loopw [8] (fun ix wr => ∃ m : Nat, 1 ≤ m ∧ (m ≤ nj ∨ m = 1) ∧ ix = .int .i64 m ∧ RowKit.Below w4.heap.size w4 wr) (fun ix _ => nj - (intOf ix).toNat)
    case atStart => exact ⟨1, Nat.le_refl _, .inr rfl, rfl, Below.refl _ _⟩
    case round =>
      obtain ⟨m, hm1, hm2, rfl, hBr⟩ := hrel
      have HBr := Lib.hid hBr
      clear hBr
      by_cases hlt : m < nj
      · obtain ⟨k, rfl⟩ : ∃ k, m = k + 1 := ⟨m - 1, by omega⟩
        obtain ⟨x, hx⟩ : ∃ x, J[k + 1]? = some x := ⟨_, List.getElem?_eq_getElem (by rw [← HNJ.out]; exact hlt)⟩
        obtain ⟨y, hy⟩ : ∃ y, J[k]? = some y := ⟨_, List.getElem?_eq_getElem (by rw [← HNJ.out]; omega)⟩
        obtain ⟨b, off, hab, hcy⟩ := HEJ.out wr HBr.out k y hy
        subst hab
        obtain ⟨b', off', hab, hcx⟩ := HEJ.out wr HBr.out (k + 1) x hx
        cases hab
        have HCX := Lib.hid hcx
        have HCY := Lib.hid hcy
        have HBF := Lib.hid (ord_at HJO.out (Nat.lt_succ_self k) hy hx)
        clear hx hy hcx hcy
        go_upto_region 11 with fail
        refine mg11 wr b off nj jc (k + 1) k x y _ _ _ _ _ _ _ _ _ _ _ _ _ _ _ _ _ _ _ _ _ _ _ _ _ _ _ _ _ _ _ _ _ _ _ _ _ _ _ _ _ _ _ _ _ _ _ _ _ _ _ _ _ _ _ _ _ _ _ _ _ _ _ _ _ _ _ _ _ _ _ _ _ _ _ _ _ _ _ _ _ _ _ _ _ _ _ _ _ _ _ _ _ _ _ _ _ _ _ _ _ _ _ _ _ _ _ _ _ _ _ _ _ _ _ _ _ _ _ _ _ _ _ _ hlt (by omega) (by omega) (by omega) HCY HCX (Lib.hid fun W => by have h := before_any W y x; rw [show befB y x = true from HBF.out] at h; exact h) ?_
        intro v35 v36 v37 v38 v39 v40 v41 v42 v43 v44 w6 hb6
        have HB6 := Lib.hid (HBr.out.trans (hb6.mono HBr.out.size))
        clear hb6
        go_wp2_with fail
        go_roundw
        case rel => exact ⟨k + 2, by omega, .inl (by omega), by go_num, HB6.out⟩
        case measure => simp [intOf]; omega
      · have HBr4 := Lib.hid (HBw4.out.trans (HBr.out.mono HBw4.out.size))
        go_wp2_with fail
        go_loopw [9] (fun ix wq => ∃ m : Nat, m ≤ ns ∧ ix = .int .i64 m ∧ RowKit.Below w4.heap.size w4 wq) (fun ix _ => ns - (intOf ix).toNat)
        case atStart => exact ⟨0, Nat.zero_le _, rfl, HBr.out⟩
        case round =>
          obtain ⟨i, hin, rfl, hBq⟩ := hrel
          have HBq := Lib.hid hBq
          clear hBq
          by_cases hli : i < ns
          · obtain ⟨x, hx⟩ : ∃ x, S[i]? = some x := ⟨_, List.getElem?_eq_getElem (by rw [← HNS.out]; exact hli)⟩
            obtain ⟨b, off, hab, hcx⟩ := HES.out wr HBq.out i x hx
            subst hab
            have hx0 : x.cells = [.int .i64 x.src, .int .i64 x.tgt, .int .i64 x.cls, .int .i64 0, .int .u32 x.allow, .int .u32 x.audit, .int .u32 x.dont] := by rw [← HSB.out x (List.mem_of_getElem? hx)]; rfl
            have HX0 := Lib.hid hx0
            have hk0 : wr.cell? ⟨b, off + i * 7, none⟩ = some (.int .i64 x.src) := hcx 0 _ (by rw [HX0.out]; rfl)
            have hk1 : wr.cell? ⟨b, off + i * 7 + 1, none⟩ = some (.int .i64 x.tgt) := hcx 1 _ (by rw [HX0.out]; rfl)
            have hk2 : wr.cell? ⟨b, off + i * 7 + 2, none⟩ = some (.int .i64 x.cls) := hcx 2 _ (by rw [HX0.out]; rfl)
            have hk3 : wr.cell? ⟨b, off + i * 7 + 3, none⟩ = some (.int .i64 0) := hcx 3 _ (by rw [HX0.out]; rfl)
            have hk4 : wr.cell? ⟨b, off + i * 7 + 4, none⟩ = some (.int .u32 x.allow) := hcx 4 _ (by rw [HX0.out]; rfl)
            have hk5 : wr.cell? ⟨b, off + i * 7 + 5, none⟩ = some (.int .u32 x.audit) := hcx 5 _ (by rw [HX0.out]; rfl)
            have hk6 : wr.cell? ⟨b, off + i * 7 + 6, none⟩ = some (.int .u32 x.dont) := hcx 6 _ (by rw [HX0.out]; rfl)
            have HXM := Lib.hid (List.mem_of_getElem? hx)
            have HXI := Lib.hid hx
            clear hcx hx hx0
            go_upto_region 17 with (refine wpList_store_blk rfl 37 _ _ rfl wr.heap.size 0 (.agg #[.int .i64 x.src, .int .i64 x.tgt, .int .i64 x.cls, .int .i64 0, .int .u32 x.allow, .int .u32 x.audit, .int .u32 x.dont]) rfl rfl 37 _ (Whole.new wr 37 _) (by simp [Value.cells]) size37 rfl ?_; intro w5 S5 W5; rw [splice_all _ _ (by rfl)] at W5; have HS5 := Lib.hid S5; have HW5 := Lib.hid (show Whole w5 wr.heap.size 37 #[.int .i64 x.src, .int .i64 x.tgt, .int .i64 x.cls, .int .i64 0, .int .u32 x.allow, .int .u32 x.audit, .int .u32 x.dont] from W5); clear S5 W5)
            clear hk0 hk1 hk2 hk3 hk4 hk5 hk6
            have HB5 := Lib.hid (HBq.out.trans ((show RowKit.Below wr.heap.size wr w5 from ((Below.refl _ wr).alloc (Nat.le_refl _) _).trans (HS5.out.below (Nat.le_refl _))).mono HBq.out.size))
            obtain ⟨xb, hxb⟩ : ∃ xb, xb = wr.heap.size := ⟨_, rfl⟩
            rw [← hxb] at HW5 ⊢
            clear hxb HS5
            have HF := Lib.hid (find_any w5 _ tb J S vals x.src x.tgt x.cls (HT4.out.keep HB5.out) (HSK.out x HXM.out).1.src (HSK.out x HXM.out).1.tgt (HSK.out x HXM.out).1.cls)
            rw [lookV_at HSO.out HXI.out (show x.key = ⟨x.src, x.tgt, x.cls, 0⟩ by rw [← HSB.out x HXM.out]; rfl)] at HF
            have HF := Lib.hid (show Calls Try.prog 19 #[.pointer (some ⟨tb, 0, none⟩), .int .i64 x.src, .int .i64 x.tgt, .int .i64 x.cls] w5 fun e w' => e = .returned (.tuple #[.int .u32 x.allow, .int .u32 x.audit, .int .u32 x.dont]) ∧ RowKit.Below w5.heap.size w5 w' from HF.out)
            have kq0 : w5.cell? ⟨xb, 0, none⟩ = some (.int .i64 x.src) := HW5.out.cell 0
            have kq1 : w5.cell? ⟨xb, 1, none⟩ = some (.int .i64 x.tgt) := HW5.out.cell 1
            have kq2 : w5.cell? ⟨xb, 2, none⟩ = some (.int .i64 x.cls) := HW5.out.cell 2
            go_upto_region 18 with (go_at_call 19; go_must (refine HF.out.mono ?_; rintro e w6 ⟨rfl, hb⟩; have HB6 := Lib.hid hb; clear hb))
            clear kq0 kq1 kq2
            have HW6 := Lib.hid (Whole.under HB6.out HW5.out HW5.out.lt)
            have HBo6 := Lib.hid (HB5.out.trans (HB6.out.mono HB5.out.size))
            have HZ := Lib.hid (vecs_or (HSK.out x HXM.out) (HSN.out x HXM.out))
            cases i with
            | zero =>
              refine mg18_f w6 b off ns sc xb x _ _ _ _ _ _ _ _ _ _ _ _ _ _ _ _ _ _ _ _ _ _ _ _ _ _ _ _ _ _ _ _ _ _ _ _ _ _ _ _ _ _ _ _ _ _ _ _ _ _ _ _ _ _ _ _ _ _ _ _ _ _ _ _ _ _ _ _ _ _ _ _ _ _ _ _ _ _ _ _ _ _ _ _ _ _ _ _ _ _ _ _ _ _ _ _ _ _ _ _ _ _ _ _ _ _ _ _ _ _ _ _ _ _ _ _ _ _ _ _ HW6 HZ.out ?_
              intro v68 v69 v70 v71 v72 v73 v74 v75 v76 v77 v78 v79 v80 v81 v82 v83 v84 v85 v86 v87 v88 v89 v90 v91 v92 v93 v94 v95 v96 v97 v98 v99 v100 v101 v102 v103 v104 v105 v106 v107 v108 v109 w7 hb7
              have HB7 := Lib.hid (HBo6.out.trans (hb7.mono HBo6.out.size))
              clear hb7
              go_wp2_with fail
              go_roundw
              case rel => exact ⟨1, by omega, by go_num, HB7.out⟩
              case measure => simp [intOf]; omega
            | succ k =>
              obtain ⟨y, hy⟩ : ∃ y, S[k]? = some y := ⟨_, List.getElem?_eq_getElem (by rw [← HNS.out]; omega)⟩
              obtain ⟨b', off', hab, hcy⟩ := HES.out w6 HBo6.out k y hy
              cases hab
              have HCY := Lib.hid hcy
              have HBF := Lib.hid (ord_at HSO.out (Nat.lt_succ_self k) hy HXI.out)
              clear hy hcy
              refine mg18_t w6 b off ns sc (k + 1) k xb x y _ _ _ _ _ _ _ _ _ _ _ _ _ _ _ _ _ _ _ _ _ _ _ _ _ _ _ _ _ _ _ _ _ _ _ _ _ _ _ _ _ _ _ _ _ _ _ _ _ _ _ _ _ _ _ _ _ _ _ _ _ _ _ _ _ _ _ _ _ _ _ _ _ _ _ _ _ _ _ _ _ _ _ _ _ _ _ _ _ _ _ _ _ _ _ _ _ _ _ _ _ _ _ _ _ _ _ _ _ _ _ _ _ _ _ _ _ _ _ _ (by omega) (by omega) (by omega) (by omega) HCY (Lib.hid fun W => by
                have h := before_any W y x
                rw [show befB y x = true from HBF.out] at h
                rw [show (.int .i64 0 : Value) = .int .i64 x.cond by rw [HSB.out x HXM.out]]
                exact h) HW6 HZ.out ?_
              intro v68 v69 v70 v71 v72 v73 v74 v75 v76 v77 v78 v79 v80 v81 v82 v83 v84 v85 v86 v87 v88 v89 v90 v91 v92 v93 v94 v95 v96 v97 v98 v99 v100 v101 v102 v103 v104 v105 v106 v107 v108 v109 w7 hb7
              have HB7 := Lib.hid (HBo6.out.trans (hb7.mono HBo6.out.size))
              clear hb7
              go_wp2_with fail
              go_roundw
              case rel => exact ⟨k + 2, by omega, by go_num, HB7.out⟩
              case measure => simp [intOf]; omega
          · have HTq := Lib.hid (HT4.out.keep HBq.out)
            have HLE := Lib.hid (len_any wr _ tb J S vals HTq.out)
            rw [← HNJ.out] at HLE
            go_wp2_with (first
              | (have hZ := HLE; clear hZ; (go_at_call 20; go_must (refine HLE.out.mono ?_; rintro e w6 ⟨rfl, rfl⟩; clear HLE; have HAL := Lib.hid (alive_any wr))))
              | (have hZ := HAL; clear hZ; (go_at_call 9; go_must (refine HAL.out.mono ?_; rintro e w7 ⟨rfl, hb⟩; have HB7 := Lib.hid hb; clear hb HAL))))
            go_ret
            exact ⟨ret_val rfl, (HBw4.out.trans (HBq.out.mono HBw4.out.size)).trans (HB7.out.mono (Nat.le_trans HBw4.out.size HBq.out.size))⟩
end Go.Proofs.Ytlkkdpoliafjbaa
