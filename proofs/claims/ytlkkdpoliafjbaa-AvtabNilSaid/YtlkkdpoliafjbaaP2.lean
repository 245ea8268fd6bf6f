import Derived.Test.YtlkkdpoliafjbaaP1
import Derived.ChangeKeysEq
import Derived.Laws.StructEq
/-
  Equality of vectors and of entries; add.
-/
namespace Go.Proofs.Ytlkkdpoliafjbaa
open Go Go.WideMaps Go.RowKit

theorem splice_all (cs : Array Value) (l : List Value) (h : cs.size = l.length) : splice cs 0 l = l.toArray := by
  apply Array.toList_inj.1
  rw [splice_toList _ _ _ (by omega)]
  simp [List.drop_of_length_le (show cs.toList.length ≤ l.length by simp [h])]
theorem cOf35 : Try.prog.cellsOf 35 = 1 := by kernel_rfl
theorem info35 : infoB (Try.prog.info? 35) 1 4 = true := by kernel_rfl
theorem eqi (d : Nat) (a b : Int) (w : World) : (Op.equalIn (d + 1) 3 (.int .i64 a) (.int .i64 b)).run Try.prog w = .ok (decide (a = b)) w := by
  by_cases h : a = b <;> simp [Op.equalIn, run_underlying Try.underlying3, h]
theorem equ (d : Nat) (a b : Int) (w : World) : (Op.equalIn (d + 1) 35 (.int .u32 a) (.int .u32 b)).run Try.prog w = .ok (decide (a = b)) w := by
  by_cases h : a = b <;> simp [Op.equalIn, run_underlying Try.underlying35, h]
theorem eqi9 (a b : Int) (w : World) : (Op.equalIn 9999 3 (.int .i64 a) (.int .i64 b)).run Try.prog w = .ok (decide (a = b)) w := eqi 9998 a b w
theorem equ9 (a b : Int) (w : World) : (Op.equalIn 9999 35 (.int .u32 a) (.int .u32 b)).run Try.prog w = .ok (decide (a = b)) w := equ 9998 a b w
theorem eq_vec (x0 x1 x2 y0 y1 y2 : Int) (w : World) : (Op.equalIn 10000 62 (.agg #[.int .u32 x0, .int .u32 x1, .int .u32 x2]) (.agg #[.int .u32 y0, .int .u32 y1, .int .u32 y2])).run Try.prog w = .ok (decide (x0 = y0 ∧ x1 = y1 ∧ x2 = y2)) w := by
  obtain ⟨i0, z, hi, _⟩ := infoOf info35
  rw [show (10000 : Nat) = 9999 + 1 from rfl, run_equalIn_array w 9999 _ _ Try.underlying62 hi, cOf35]
  have p0 : ∀ x0 x1 x2 : Int, (part 35 #[.int .u32 x0, .int .u32 x1, .int .u32 x2] (0 * 1)).run Try.prog w = .ok (.int .u32 x0) w := fun x0 x1 x2 => by kernel_rfl
  have p1 : ∀ x0 x1 x2 : Int, (part 35 #[.int .u32 x0, .int .u32 x1, .int .u32 x2] (1 * 1)).run Try.prog w = .ok (.int .u32 x1) w := fun x0 x1 x2 => by kernel_rfl
  have p2 : ∀ x0 x1 x2 : Int, (part 35 #[.int .u32 x0, .int .u32 x1, .int .u32 x2] (2 * 1)).run Try.prog w = .ok (.int .u32 x2) w := fun x0 x1 x2 => by kernel_rfl
  rw [show List.range 3 = [0, 1, 2] from rfl]
  simp only [Op.eqItems, Sem.run_bind, p0, Result.andThen_ok, equ9]
  by_cases h0 : x0 = y0 <;> by_cases h1 : x1 = y1 <;> by_cases h2 : x2 = y2 <;> simp [h0, h1, h2, Sem.run_bind, p1, p2, equ9]
/-- Fields compared one by one. -/
theorem eq_fields {xs ys : Array Value} {W : World} {d : Nat} : ∀ (fs : List Field) (rs : List Bool), fs.length = rs.length → (fs.all fun f => f.name != "_") = true → (∀ (i : Nat) (f : Field) (r : Bool), fs[i]? = some f → rs[i]? = some r → ∃ x y, (part f.type xs f.offset).run Try.prog W = .ok x W ∧ (part f.type ys f.offset).run Try.prog W = .ok y W ∧ (Op.equalIn d f.type x y).run Try.prog W = .ok r W) → (Op.eqFields d xs ys fs).run Try.prog W = .ok (rs.all id) W
  | [], [], _, _, _ => rfl
  | f :: fs, r :: rs, hl, hn, h => by
    obtain ⟨x, y, h1, h2, h3⟩ := h 0 f r rfl rfl
    have ih := eq_fields fs rs (by simpa using hl) (by simp at hn; simpa using hn.2) fun i g s hg hs => h (i + 1) g s (by simpa using hg) (by simpa using hs)
    unfold Op.eqFields
    have hne : f.name ≠ "_" := by simp at hn; exact hn.1
    rw [if_pos hne]
    simp only [Sem.run_bind, h1, h2, h3, Result.andThen_ok]
    cases r with
    | false => simp
    | true => simpa using ih
  | [], _ :: _, h, _, _ => by simp at h
  | _ :: _, [], h, _, _ => by simp at h
set_option maxRecDepth 100000 in
theorem eq_entry' (x y : AEntry) (w : World) : (Op.equalIn 10000 37 (.agg #[.int .i64 x.src, .int .i64 x.tgt, .int .i64 x.cls, .int .i64 x.cond, .int .u32 x.allow, .int .u32 x.audit, .int .u32 x.dont]) (.agg #[.int .i64 y.src, .int .i64 y.tgt, .int .i64 y.cls, .int .i64 y.cond, .int .u32 y.allow, .int .u32 y.audit, .int .u32 y.dont])).run Try.prog w = .ok ([decide (x.src = y.src), decide (x.tgt = y.tgt), decide (x.cls = y.cls), decide (x.cond = y.cond), decide (x.allow = y.allow), decide (x.audit = y.audit), decide (x.dont = y.dont)].all id) w := by
  have hf : (Try.prog.fieldsOf 37).toList.map (fun f => (f.type, f.offset)) = [(3, 0), (3, 1), (3, 2), (3, 3), (35, 4), (35, 5), (35, 6)] := by kernel_rfl
  rw [run_equalIn_agg w 9999 37 _ _ (by kernel_rfl) (by kernel_rfl)]
  refine eq_fields _ _ (by kernel_rfl) (by kernel_rfl) fun i f r hi hr => ?_
  have hm := congrArg (fun z : List (Nat × Nat) => z[i]?) hf
  simp only [List.getElem?_map, hi, Option.map_some] at hm
  have hlt : i < 7 := (List.getElem?_eq_some_iff.1 hr).1
  match i, hlt with
  | 0, _ =>
    obtain ⟨h1, h2⟩ := Prod.mk.inj (Option.some.inj hm)
    obtain rfl := Option.some.inj hr
    rw [h1, h2]
    exact ⟨.int .i64 x.src, .int .i64 y.src, by kernel_rfl, by kernel_rfl, eqi9 _ _ _⟩
  | 1, _ =>
    obtain ⟨h1, h2⟩ := Prod.mk.inj (Option.some.inj hm)
    obtain rfl := Option.some.inj hr
    rw [h1, h2]
    exact ⟨.int .i64 x.tgt, .int .i64 y.tgt, by kernel_rfl, by kernel_rfl, eqi9 _ _ _⟩
  | 2, _ =>
    obtain ⟨h1, h2⟩ := Prod.mk.inj (Option.some.inj hm)
    obtain rfl := Option.some.inj hr
    rw [h1, h2]
    exact ⟨.int .i64 x.cls, .int .i64 y.cls, by kernel_rfl, by kernel_rfl, eqi9 _ _ _⟩
  | 3, _ =>
    obtain ⟨h1, h2⟩ := Prod.mk.inj (Option.some.inj hm)
    obtain rfl := Option.some.inj hr
    rw [h1, h2]
    exact ⟨.int .i64 x.cond, .int .i64 y.cond, by kernel_rfl, by kernel_rfl, eqi9 _ _ _⟩
  | 4, _ =>
    obtain ⟨h1, h2⟩ := Prod.mk.inj (Option.some.inj hm)
    obtain rfl := Option.some.inj hr
    rw [h1, h2]
    exact ⟨.int .u32 x.allow, .int .u32 y.allow, by kernel_rfl, by kernel_rfl, equ9 _ _ _⟩
  | 5, _ =>
    obtain ⟨h1, h2⟩ := Prod.mk.inj (Option.some.inj hm)
    obtain rfl := Option.some.inj hr
    rw [h1, h2]
    exact ⟨.int .u32 x.audit, .int .u32 y.audit, by kernel_rfl, by kernel_rfl, equ9 _ _ _⟩
  | 6, _ =>
    obtain ⟨h1, h2⟩ := Prod.mk.inj (Option.some.inj hm)
    obtain rfl := Option.some.inj hr
    rw [h1, h2]
    exact ⟨.int .u32 x.dont, .int .u32 y.dont, by kernel_rfl, by kernel_rfl, equ9 _ _ _⟩
theorem eq_entry (x y : AEntry) (w : World) : (Op.equalIn 10000 37 (.agg #[.int .i64 x.src, .int .i64 x.tgt, .int .i64 x.cls, .int .i64 x.cond, .int .u32 x.allow, .int .u32 x.audit, .int .u32 x.dont]) (.agg #[.int .i64 y.src, .int .i64 y.tgt, .int .i64 y.cls, .int .i64 y.cond, .int .u32 y.allow, .int .u32 y.audit, .int .u32 y.dont])).run Try.prog w = .ok (decide (x = y)) w := by
  rw [eq_entry']
  congr 1
  rw [Bool.eq_iff_iff]
  cases x
  cases y
  simp
set_option maxRecDepth 100000 in
set_option maxHeartbeats 4000000 in
theorem add2 (w : World) (sb kb mb : Nat) (kv : Value) (k : Key4) (u : AVec) (x1 x2 x3 x5 x6 x7 x8 x9 x10 x11 x12 x13 x14 x15 x16 x17 x18 x19 x20 x21 x22 x23 x24 x25 x26 x27 x28 x29 x30 x31 x32 : Value) (HS : Hid (Whole w sb 73 #[.map (some mb), kv])) (HK : Hid (Whole w kb 60 #[.int .i64 k.src, .int .i64 k.tgt, .int .i64 k.cls, .int .i64 k.cond])) (HL : Hid (∀ W, RowKit.Below w.heap.size w W → (Instr.lookup 70 (.map (some mb)) (.agg #[.int .i64 k.src, .int .i64 k.tgt, .int .i64 k.cls, .int .i64 k.cond]) false).run Try.prog W = .ok (.agg #[.int .u32 u.allow, .int .u32 u.audit, .int .u32 u.dont]) W))
    {Q' : Exit → Act → World → Prop} (hend : ∀ (v11 v12 v13 v14 v15 v16 : Value) (g : Nat) (w' : World), (Whole w' g 62 #[.int .u32 u.allow, .int .u32 u.audit, .int .u32 u.dont] ∧ w.heap.size ≤ g ∧ RowKit.Below w.heap.size w w') → Q' .normal ⟨#[.pointer (some ⟨sb, 0, none⟩), x1, x2, x3, .pointer (some ⟨kb, 0, none⟩), x5, .pointer (some ⟨g, 0, none⟩), x7, x8, x9, x10, v11, v12, v13, v14, v15, v16, x17, x18, x19, x20, x21, x22, x23, x24, x25, x26, x27, x28, x29, x30, x31, x32], []⟩ w') :
    Code.wp Try.prog (findRegion7 2 ((Try.f26.body).getD .skip)) Q' ⟨#[.pointer (some ⟨sb, 0, none⟩), x1, x2, x3, .pointer (some ⟨kb, 0, none⟩), x5, x6, x7, x8, x9, x10, x11, x12, x13, x14, x15, x16, x17, x18, x19, x20, x21, x22, x23, x24, x25, x26, x27, x28, x29, x30, x31, x32], []⟩ w := by
  have HEND := Lib.hid hend
  clear hend
  conv => arg 2; whnf
  conv => arg 4; dsimp only
  refine wp_region_goods [some 11, some 12, some 13, some 14, some 15, some 16, some 6] [isW (.pointer (some ⟨sb, 0, none⟩)), isW (.pointer (some ⟨sb, 0, none⟩)), isW (.pointer (some ⟨sb, 0, none⟩)), isW (.map (some mb)), isW (.agg #[.int .i64 k.src, .int .i64 k.tgt, .int .i64 k.cls, .int .i64 k.cond]), isW (.agg #[.int .u32 u.allow, .int .u32 u.audit, .int .u32 u.dont]), (fun _ v w' => ∃ g, v = .pointer (some ⟨g, 0, none⟩) ∧ w.heap.size ≤ g ∧ Whole w' g 62 #[.int .u32 0, .int .u32 0, .int .u32 0])] (fun _ w' => RowKit.Below w.heap.size w w') [] (by kernel_rfl) (by kernel_rfl) (by kernel_rfl) rfl (by decide) rfl rfl ((Below.refl _ _).drew) ⟨lastsW_is _, lastsW_is _, lastsW_is _, lastsW_is _, lastsW_is _, lastsW_is _, (fun L i v w1 w2 _ h hb => let ⟨g, e, hg, hw⟩ := h; ⟨g, e, hg, Whole.under hb hw hw.lt⟩), trivial⟩ ⟨?_, ?_, ?_, ?_, ?_, ?_, ?_, ?_⟩
  · intro L a wy Q' hL hi H F hK
    try dsimp only at hi
    have h0 : a.tmps[0]? = some (.pointer (some ⟨sb, 0, none⟩)) := F 0 rfl
    have HI := Lib.hid hi
    clear H F hi hL
    go_wp2_with fail
    exact hK _ _ (Below.refl _ _) HI.out rfl
  · intro L a wy Q' hL hi H F hK
    try dsimp only at hi
    obtain ⟨_, h11, rfl⟩ := H 0 ⟨.data, by simp, rfl⟩ _ rfl
    replace h11 := h11 _ rfl
    have HI := Lib.hid hi
    clear H F hi hL
    go_wp2_with fail
    exact hK _ _ (Below.refl _ _) HI.out rfl
  · intro L a wy Q' hL hi H F hK
    try dsimp only at hi
    obtain ⟨_, h12, rfl⟩ := H 1 ⟨.data, by simp, rfl⟩ _ rfl
    replace h12 := h12 _ rfl
    have HI := Lib.hid hi
    clear H F hi hL
    go_wp2_with fail
    exact hK _ _ (Below.refl _ _) HI.out rfl
  · intro L a wy Q' hL hi H F hK
    try dsimp only at hi
    obtain ⟨_, h13, rfl⟩ := H 2 ⟨.data, by simp, rfl⟩ _ rfl
    replace h13 := h13 _ rfl
    have HI := Lib.hid hi
    clear H F hi hL
    have kq0 : wy.cell? ⟨sb, 0, none⟩ = some (.map (some mb)) := (Whole.under HI.out HS.out (Whole.lt HS.out)).cell 0
    go_wp2_with fail
    exact hK _ _ (Below.refl _ _) HI.out rfl
  · intro L a wy Q' hL hi H F hK
    try dsimp only at hi
    have h4 : a.tmps[4]? = some (.pointer (some ⟨kb, 0, none⟩)) := F 4 rfl
    have HI := Lib.hid hi
    clear H F hi hL
    have kq0 : wy.cell? ⟨kb, 0, none⟩ = some (.int .i64 k.src) := (Whole.under HI.out HK.out (Whole.lt HK.out)).cell 0
    have kq1 : wy.cell? ⟨kb, 1, none⟩ = some (.int .i64 k.tgt) := (Whole.under HI.out HK.out (Whole.lt HK.out)).cell 1
    have kq2 : wy.cell? ⟨kb, 2, none⟩ = some (.int .i64 k.cls) := (Whole.under HI.out HK.out (Whole.lt HK.out)).cell 2
    have kq3 : wy.cell? ⟨kb, 3, none⟩ = some (.int .i64 k.cond) := (Whole.under HI.out HK.out (Whole.lt HK.out)).cell 3
    go_wp2_with fail
    exact hK _ _ (Below.refl _ _) HI.out rfl
  · intro L a wy Q' hL hi H F hK
    try dsimp only at hi
    obtain ⟨_, h14, rfl⟩ := H 3 ⟨.data, by simp, rfl⟩ _ rfl
    replace h14 := h14 _ rfl
    obtain ⟨_, h15, rfl⟩ := H 4 ⟨.data, by simp, rfl⟩ _ rfl
    replace h15 := h15 _ rfl
    have HI := Lib.hid hi
    clear H F hi hL
    have q := HL.out wy HI.out
    go_wp2_with fail
    exact hK _ _ (Below.refl _ _) HI.out rfl
  · intro L a wy Q' hL hi H F hK
    try dsimp only at hi
    have HI := Lib.hid hi
    clear H F hi hL
    have HK9 := Lib.hid hK
    clear hK
    go_wp2_with fail
    exact HK9.out _ _ ((Below.refl _ _).alloc (Nat.le_refl _) _) (HI.out.alloc HI.out.size _) ⟨wy.heap.size, rfl, HI.out.size, Whole.new wy 62 _⟩
  · intro a wy L hl hi hL Q' hK
    try dsimp only at hi
    have HB := Lib.hid hi
    clear hi hL
    obtain ⟨_, rfl, _, rfl, _, rfl, _, rfl, _, rfl, _, rfl, u6, hu6, rfl⟩ := hl
    have HU6 := Lib.hid hu6
    clear hu6
    simp only [List.setIfInBounds_toArray, List.set_cons_zero, List.set_cons_succ]
    obtain ⟨g, rfl, hg, hw⟩ := HU6.out
    have HG := Lib.hid hg
    have HW := Lib.hid hw
    clear hg hw
    go_wp2_with (refine wpList_store_blk rfl 62 _ _ rfl g 0 (.agg #[.int .u32 u.allow, .int .u32 u.audit, .int .u32 u.dont]) rfl rfl 62 _ HW.out (by simp [Value.cells]) size62 rfl ?_; intro w9 S9 W9; rw [splice_all _ _ (by rfl)] at W9; have HS9 := Lib.hid S9; have HW9 := Lib.hid (show Whole w9 g 62 #[.int .u32 u.allow, .int .u32 u.audit, .int .u32 u.dont] from W9); clear S9 W9)
    exact HEND.out _ _ _ _ _ _ g w9 ⟨HW9.out, HG.out, HB.out.trans (HS9.out.below HG.out)⟩
set_option maxRecDepth 100000 in
set_option maxHeartbeats 4000000 in
theorem add6_0 (w : World) (vb g : Nat) (a0 a1 a2 b0 b1 b2 : Int) (x0 x1 x2 x3 x4 x8 x9 x10 x11 x12 x13 x14 x15 x16 x17 x18 x19 x20 x21 x22 x23 x24 x25 x26 x27 x28 x29 x30 x31 x32 : Value) (HG : Hid (Whole w g 62 #[.int .u32 a0, .int .u32 a1, .int .u32 a2])) (HV : Hid (Whole w vb 62 #[.int .u32 b0, .int .u32 b1, .int .u32 b2]))
    {Q' : Exit → Act → World → Prop} (hend : ∀ (v20 v21 v22 v23 v24 v25 v26 v27 : Value) (w' : World), (Whole w' g 62 #[.int .u32 (bits .or .u32 a0 b0), .int .u32 a1, .int .u32 a2] ∧ ∀ B, B ≤ g → B ≤ w.heap.size → RowKit.Below B w w') → Q' .normal ⟨#[x0, x1, x2, x3, x4, .pointer (some ⟨vb, 0, none⟩), .pointer (some ⟨g, 0, none⟩), .int .i64 0, x8, x9, x10, x11, x12, x13, x14, x15, x16, x17, x18, x19, v20, v21, v22, v23, v24, v25, v26, v27, x28, x29, x30, x31, x32], []⟩ w') :
    Code.wp Try.prog (findRegion7 6 ((Try.f26.body).getD .skip)) Q' ⟨#[x0, x1, x2, x3, x4, .pointer (some ⟨vb, 0, none⟩), .pointer (some ⟨g, 0, none⟩), .int .i64 0, x8, x9, x10, x11, x12, x13, x14, x15, x16, x17, x18, x19, x20, x21, x22, x23, x24, x25, x26, x27, x28, x29, x30, x31, x32], []⟩ w := by
  have HEND := Lib.hid hend
  clear hend
  conv => arg 2; whnf
  conv => arg 4; dsimp only
  refine wp_region_goods [some 20, some 21, some 22, some 23, some 24, some 25, some 26, some 27] [isW (.int .i64 0), isW (.pointer (some ⟨g, 0, none⟩)), isW (.int .u32 a0), isW (.int .i64 0), isW (.pointer (some ⟨vb, 0, none⟩)), isW (.int .u32 b0), isW (.int .u32 (bits .or .u32 a0 b0)), isW (.pointer (some ⟨g, 0, none⟩))] (fun _ w' => RowKit.Below w.heap.size w w') [] (by kernel_rfl) (by kernel_rfl) (by kernel_rfl) rfl (by decide) rfl rfl ((Below.refl _ _).drew) ⟨lastsW_is _, lastsW_is _, lastsW_is _, lastsW_is _, lastsW_is _, lastsW_is _, lastsW_is _, lastsW_is _, trivial⟩ ⟨?_, ?_, ?_, ?_, ?_, ?_, ?_, ?_, ?_⟩
  · intro L a wy Q' hL hi H F hK
    try dsimp only at hi
    have h7 : a.tmps[7]? = some (.int .i64 0) := F 7 rfl
    have HI := Lib.hid hi
    clear H F hi hL
    go_wp2_with fail
    exact hK _ _ (Below.refl _ _) HI.out rfl
  · intro L a wy Q' hL hi H F hK
    try dsimp only at hi
    obtain ⟨_, h20, rfl⟩ := H 0 ⟨.data, by simp, rfl⟩ _ rfl
    replace h20 := h20 _ rfl
    have h6 : a.tmps[6]? = some (.pointer (some ⟨g, 0, none⟩)) := F 6 rfl
    have HI := Lib.hid hi
    clear H F hi hL
    go_wp2_with fail
    exact hK _ _ (Below.refl _ _) HI.out rfl
  · intro L a wy Q' hL hi H F hK
    try dsimp only at hi
    obtain ⟨_, h21, rfl⟩ := H 1 ⟨.data, by simp, rfl⟩ _ rfl
    replace h21 := h21 _ rfl
    have HI := Lib.hid hi
    clear H F hi hL
    have kq0 : wy.cell? ⟨g, 0, none⟩ = some (.int .u32 a0) := (Whole.under HI.out HG.out (Whole.lt HG.out)).cell 0
    go_wp2_with fail
    exact hK _ _ (Below.refl _ _) HI.out rfl
  · intro L a wy Q' hL hi H F hK
    try dsimp only at hi
    have h7 : a.tmps[7]? = some (.int .i64 0) := F 7 rfl
    have HI := Lib.hid hi
    clear H F hi hL
    go_wp2_with fail
    exact hK _ _ (Below.refl _ _) HI.out rfl
  · intro L a wy Q' hL hi H F hK
    try dsimp only at hi
    obtain ⟨_, h23, rfl⟩ := H 3 ⟨.data, by simp, rfl⟩ _ rfl
    replace h23 := h23 _ rfl
    have h5 : a.tmps[5]? = some (.pointer (some ⟨vb, 0, none⟩)) := F 5 rfl
    have HI := Lib.hid hi
    clear H F hi hL
    go_wp2_with fail
    exact hK _ _ (Below.refl _ _) HI.out rfl
  · intro L a wy Q' hL hi H F hK
    try dsimp only at hi
    obtain ⟨_, h24, rfl⟩ := H 4 ⟨.data, by simp, rfl⟩ _ rfl
    replace h24 := h24 _ rfl
    have HI := Lib.hid hi
    clear H F hi hL
    have kq0 : wy.cell? ⟨vb, 0, none⟩ = some (.int .u32 b0) := (Whole.under HI.out HV.out (Whole.lt HV.out)).cell 0
    go_wp2_with fail
    exact hK _ _ (Below.refl _ _) HI.out rfl
  · intro L a wy Q' hL hi H F hK
    try dsimp only at hi
    obtain ⟨_, h22, rfl⟩ := H 2 ⟨.data, by simp, rfl⟩ _ rfl
    replace h22 := h22 _ rfl
    obtain ⟨_, h25, rfl⟩ := H 5 ⟨.data, by simp, rfl⟩ _ rfl
    replace h25 := h25 _ rfl
    have HI := Lib.hid hi
    clear H F hi hL
    go_wp2_with fail
    exact hK _ _ (Below.refl _ _) HI.out rfl
  · intro L a wy Q' hL hi H F hK
    try dsimp only at hi
    obtain ⟨_, h20, rfl⟩ := H 0 ⟨.data, by simp, rfl⟩ _ rfl
    replace h20 := h20 _ rfl
    have h6 : a.tmps[6]? = some (.pointer (some ⟨g, 0, none⟩)) := F 6 rfl
    have HI := Lib.hid hi
    clear H F hi hL
    go_wp2_with fail
    exact hK _ _ (Below.refl _ _) HI.out rfl
  · intro a wy L hl hi hL Q' hK
    try dsimp only at hi
    have HB := Lib.hid hi
    clear hi hL
    obtain ⟨_, rfl, _, rfl, _, rfl, _, rfl, _, rfl, _, rfl, _, rfl, _, rfl, rfl⟩ := hl
    simp only [List.setIfInBounds_toArray, List.set_cons_zero, List.set_cons_succ]
    have HW := Lib.hid (Whole.under HB.out HG.out (Whole.lt HG.out))
    go_wp2_with (refine wpList_store_blk rfl 35 _ _ rfl g 0 (.int .u32 (bits .or .u32 a0 b0)) rfl rfl 62 _ HW.out (by simp [Value.cells]) size35 rfl ?_; intro w9 S9 W9; have HS9 := Lib.hid S9; have HW9 := Lib.hid (show Whole w9 g 62 #[.int .u32 (bits .or .u32 a0 b0), .int .u32 a1, .int .u32 a2] from W9); clear S9 W9)
    exact HEND.out _ _ _ _ _ _ _ _ w9 ⟨HW9.out, fun B h1 h2 => (HB.out.mono h2).trans (HS9.out.below h1)⟩
set_option maxRecDepth 100000 in
set_option maxHeartbeats 4000000 in
theorem add6_1 (w : World) (vb g : Nat) (a0 a1 a2 b0 b1 b2 : Int) (x0 x1 x2 x3 x4 x8 x9 x10 x11 x12 x13 x14 x15 x16 x17 x18 x19 x20 x21 x22 x23 x24 x25 x26 x27 x28 x29 x30 x31 x32 : Value) (HG : Hid (Whole w g 62 #[.int .u32 a0, .int .u32 a1, .int .u32 a2])) (HV : Hid (Whole w vb 62 #[.int .u32 b0, .int .u32 b1, .int .u32 b2]))
    {Q' : Exit → Act → World → Prop} (hend : ∀ (v20 v21 v22 v23 v24 v25 v26 v27 : Value) (w' : World), (Whole w' g 62 #[.int .u32 a0, .int .u32 (bits .or .u32 a1 b1), .int .u32 a2] ∧ ∀ B, B ≤ g → B ≤ w.heap.size → RowKit.Below B w w') → Q' .normal ⟨#[x0, x1, x2, x3, x4, .pointer (some ⟨vb, 0, none⟩), .pointer (some ⟨g, 0, none⟩), .int .i64 1, x8, x9, x10, x11, x12, x13, x14, x15, x16, x17, x18, x19, v20, v21, v22, v23, v24, v25, v26, v27, x28, x29, x30, x31, x32], []⟩ w') :
    Code.wp Try.prog (findRegion7 6 ((Try.f26.body).getD .skip)) Q' ⟨#[x0, x1, x2, x3, x4, .pointer (some ⟨vb, 0, none⟩), .pointer (some ⟨g, 0, none⟩), .int .i64 1, x8, x9, x10, x11, x12, x13, x14, x15, x16, x17, x18, x19, x20, x21, x22, x23, x24, x25, x26, x27, x28, x29, x30, x31, x32], []⟩ w := by
  have HEND := Lib.hid hend
  clear hend
  conv => arg 2; whnf
  conv => arg 4; dsimp only
  refine wp_region_goods [some 20, some 21, some 22, some 23, some 24, some 25, some 26, some 27] [isW (.int .i64 1), isW (.pointer (some ⟨g, 1, none⟩)), isW (.int .u32 a1), isW (.int .i64 1), isW (.pointer (some ⟨vb, 1, none⟩)), isW (.int .u32 b1), isW (.int .u32 (bits .or .u32 a1 b1)), isW (.pointer (some ⟨g, 1, none⟩))] (fun _ w' => RowKit.Below w.heap.size w w') [] (by kernel_rfl) (by kernel_rfl) (by kernel_rfl) rfl (by decide) rfl rfl ((Below.refl _ _).drew) ⟨lastsW_is _, lastsW_is _, lastsW_is _, lastsW_is _, lastsW_is _, lastsW_is _, lastsW_is _, lastsW_is _, trivial⟩ ⟨?_, ?_, ?_, ?_, ?_, ?_, ?_, ?_, ?_⟩
  · intro L a wy Q' hL hi H F hK
    try dsimp only at hi
    have h7 : a.tmps[7]? = some (.int .i64 1) := F 7 rfl
    have HI := Lib.hid hi
    clear H F hi hL
    go_wp2_with fail
    exact hK _ _ (Below.refl _ _) HI.out rfl
  · intro L a wy Q' hL hi H F hK
    try dsimp only at hi
    obtain ⟨_, h20, rfl⟩ := H 0 ⟨.data, by simp, rfl⟩ _ rfl
    replace h20 := h20 _ rfl
    have h6 : a.tmps[6]? = some (.pointer (some ⟨g, 0, none⟩)) := F 6 rfl
    have HI := Lib.hid hi
    clear H F hi hL
    go_wp2_with fail
    exact hK _ _ (Below.refl _ _) HI.out rfl
  · intro L a wy Q' hL hi H F hK
    try dsimp only at hi
    obtain ⟨_, h21, rfl⟩ := H 1 ⟨.data, by simp, rfl⟩ _ rfl
    replace h21 := h21 _ rfl
    have HI := Lib.hid hi
    clear H F hi hL
    have kq0 : wy.cell? ⟨g, 1, none⟩ = some (.int .u32 a1) := (Whole.under HI.out HG.out (Whole.lt HG.out)).cell 1
    go_wp2_with fail
    exact hK _ _ (Below.refl _ _) HI.out rfl
  · intro L a wy Q' hL hi H F hK
    try dsimp only at hi
    have h7 : a.tmps[7]? = some (.int .i64 1) := F 7 rfl
    have HI := Lib.hid hi
    clear H F hi hL
    go_wp2_with fail
    exact hK _ _ (Below.refl _ _) HI.out rfl
  · intro L a wy Q' hL hi H F hK
    try dsimp only at hi
    obtain ⟨_, h23, rfl⟩ := H 3 ⟨.data, by simp, rfl⟩ _ rfl
    replace h23 := h23 _ rfl
    have h5 : a.tmps[5]? = some (.pointer (some ⟨vb, 0, none⟩)) := F 5 rfl
    have HI := Lib.hid hi
    clear H F hi hL
    go_wp2_with fail
    exact hK _ _ (Below.refl _ _) HI.out rfl
  · intro L a wy Q' hL hi H F hK
    try dsimp only at hi
    obtain ⟨_, h24, rfl⟩ := H 4 ⟨.data, by simp, rfl⟩ _ rfl
    replace h24 := h24 _ rfl
    have HI := Lib.hid hi
    clear H F hi hL
    have kq0 : wy.cell? ⟨vb, 1, none⟩ = some (.int .u32 b1) := (Whole.under HI.out HV.out (Whole.lt HV.out)).cell 1
    go_wp2_with fail
    exact hK _ _ (Below.refl _ _) HI.out rfl
  · intro L a wy Q' hL hi H F hK
    try dsimp only at hi
    obtain ⟨_, h22, rfl⟩ := H 2 ⟨.data, by simp, rfl⟩ _ rfl
    replace h22 := h22 _ rfl
    obtain ⟨_, h25, rfl⟩ := H 5 ⟨.data, by simp, rfl⟩ _ rfl
    replace h25 := h25 _ rfl
    have HI := Lib.hid hi
    clear H F hi hL
    go_wp2_with fail
    exact hK _ _ (Below.refl _ _) HI.out rfl
  · intro L a wy Q' hL hi H F hK
    try dsimp only at hi
    obtain ⟨_, h20, rfl⟩ := H 0 ⟨.data, by simp, rfl⟩ _ rfl
    replace h20 := h20 _ rfl
    have h6 : a.tmps[6]? = some (.pointer (some ⟨g, 0, none⟩)) := F 6 rfl
    have HI := Lib.hid hi
    clear H F hi hL
    go_wp2_with fail
    exact hK _ _ (Below.refl _ _) HI.out rfl
  · intro a wy L hl hi hL Q' hK
    try dsimp only at hi
    have HB := Lib.hid hi
    clear hi hL
    obtain ⟨_, rfl, _, rfl, _, rfl, _, rfl, _, rfl, _, rfl, _, rfl, _, rfl, rfl⟩ := hl
    simp only [List.setIfInBounds_toArray, List.set_cons_zero, List.set_cons_succ]
    have HW := Lib.hid (Whole.under HB.out HG.out (Whole.lt HG.out))
    go_wp2_with (refine wpList_store_blk rfl 35 _ _ rfl g 1 (.int .u32 (bits .or .u32 a1 b1)) rfl rfl 62 _ HW.out (by simp [Value.cells]) size35 rfl ?_; intro w9 S9 W9; have HS9 := Lib.hid S9; have HW9 := Lib.hid (show Whole w9 g 62 #[.int .u32 a0, .int .u32 (bits .or .u32 a1 b1), .int .u32 a2] from W9); clear S9 W9)
    exact HEND.out _ _ _ _ _ _ _ _ w9 ⟨HW9.out, fun B h1 h2 => (HB.out.mono h2).trans (HS9.out.below h1)⟩
set_option maxRecDepth 100000 in
set_option maxHeartbeats 4000000 in
theorem add6_2 (w : World) (vb g : Nat) (a0 a1 a2 b0 b1 b2 : Int) (x0 x1 x2 x3 x4 x8 x9 x10 x11 x12 x13 x14 x15 x16 x17 x18 x19 x20 x21 x22 x23 x24 x25 x26 x27 x28 x29 x30 x31 x32 : Value) (HG : Hid (Whole w g 62 #[.int .u32 a0, .int .u32 a1, .int .u32 a2])) (HV : Hid (Whole w vb 62 #[.int .u32 b0, .int .u32 b1, .int .u32 b2]))
    {Q' : Exit → Act → World → Prop} (hend : ∀ (v20 v21 v22 v23 v24 v25 v26 v27 : Value) (w' : World), (Whole w' g 62 #[.int .u32 a0, .int .u32 a1, .int .u32 (bits .or .u32 a2 b2)] ∧ ∀ B, B ≤ g → B ≤ w.heap.size → RowKit.Below B w w') → Q' .normal ⟨#[x0, x1, x2, x3, x4, .pointer (some ⟨vb, 0, none⟩), .pointer (some ⟨g, 0, none⟩), .int .i64 2, x8, x9, x10, x11, x12, x13, x14, x15, x16, x17, x18, x19, v20, v21, v22, v23, v24, v25, v26, v27, x28, x29, x30, x31, x32], []⟩ w') :
    Code.wp Try.prog (findRegion7 6 ((Try.f26.body).getD .skip)) Q' ⟨#[x0, x1, x2, x3, x4, .pointer (some ⟨vb, 0, none⟩), .pointer (some ⟨g, 0, none⟩), .int .i64 2, x8, x9, x10, x11, x12, x13, x14, x15, x16, x17, x18, x19, x20, x21, x22, x23, x24, x25, x26, x27, x28, x29, x30, x31, x32], []⟩ w := by
  have HEND := Lib.hid hend
  clear hend
  conv => arg 2; whnf
  conv => arg 4; dsimp only
  refine wp_region_goods [some 20, some 21, some 22, some 23, some 24, some 25, some 26, some 27] [isW (.int .i64 2), isW (.pointer (some ⟨g, 2, none⟩)), isW (.int .u32 a2), isW (.int .i64 2), isW (.pointer (some ⟨vb, 2, none⟩)), isW (.int .u32 b2), isW (.int .u32 (bits .or .u32 a2 b2)), isW (.pointer (some ⟨g, 2, none⟩))] (fun _ w' => RowKit.Below w.heap.size w w') [] (by kernel_rfl) (by kernel_rfl) (by kernel_rfl) rfl (by decide) rfl rfl ((Below.refl _ _).drew) ⟨lastsW_is _, lastsW_is _, lastsW_is _, lastsW_is _, lastsW_is _, lastsW_is _, lastsW_is _, lastsW_is _, trivial⟩ ⟨?_, ?_, ?_, ?_, ?_, ?_, ?_, ?_, ?_⟩
  · intro L a wy Q' hL hi H F hK
    try dsimp only at hi
    have h7 : a.tmps[7]? = some (.int .i64 2) := F 7 rfl
    have HI := Lib.hid hi
    clear H F hi hL
    go_wp2_with fail
    exact hK _ _ (Below.refl _ _) HI.out rfl
  · intro L a wy Q' hL hi H F hK
    try dsimp only at hi
    obtain ⟨_, h20, rfl⟩ := H 0 ⟨.data, by simp, rfl⟩ _ rfl
    replace h20 := h20 _ rfl
    have h6 : a.tmps[6]? = some (.pointer (some ⟨g, 0, none⟩)) := F 6 rfl
    have HI := Lib.hid hi
    clear H F hi hL
    go_wp2_with fail
    exact hK _ _ (Below.refl _ _) HI.out rfl
  · intro L a wy Q' hL hi H F hK
    try dsimp only at hi
    obtain ⟨_, h21, rfl⟩ := H 1 ⟨.data, by simp, rfl⟩ _ rfl
    replace h21 := h21 _ rfl
    have HI := Lib.hid hi
    clear H F hi hL
    have kq0 : wy.cell? ⟨g, 2, none⟩ = some (.int .u32 a2) := (Whole.under HI.out HG.out (Whole.lt HG.out)).cell 2
    go_wp2_with fail
    exact hK _ _ (Below.refl _ _) HI.out rfl
  · intro L a wy Q' hL hi H F hK
    try dsimp only at hi
    have h7 : a.tmps[7]? = some (.int .i64 2) := F 7 rfl
    have HI := Lib.hid hi
    clear H F hi hL
    go_wp2_with fail
    exact hK _ _ (Below.refl _ _) HI.out rfl
  · intro L a wy Q' hL hi H F hK
    try dsimp only at hi
    obtain ⟨_, h23, rfl⟩ := H 3 ⟨.data, by simp, rfl⟩ _ rfl
    replace h23 := h23 _ rfl
    have h5 : a.tmps[5]? = some (.pointer (some ⟨vb, 0, none⟩)) := F 5 rfl
    have HI := Lib.hid hi
    clear H F hi hL
    go_wp2_with fail
    exact hK _ _ (Below.refl _ _) HI.out rfl
  · intro L a wy Q' hL hi H F hK
    try dsimp only at hi
    obtain ⟨_, h24, rfl⟩ := H 4 ⟨.data, by simp, rfl⟩ _ rfl
    replace h24 := h24 _ rfl
    have HI := Lib.hid hi
    clear H F hi hL
    have kq0 : wy.cell? ⟨vb, 2, none⟩ = some (.int .u32 b2) := (Whole.under HI.out HV.out (Whole.lt HV.out)).cell 2
    go_wp2_with fail
    exact hK _ _ (Below.refl _ _) HI.out rfl
  · intro L a wy Q' hL hi H F hK
    try dsimp only at hi
    obtain ⟨_, h22, rfl⟩ := H 2 ⟨.data, by simp, rfl⟩ _ rfl
    replace h22 := h22 _ rfl
    obtain ⟨_, h25, rfl⟩ := H 5 ⟨.data, by simp, rfl⟩ _ rfl
    replace h25 := h25 _ rfl
    have HI := Lib.hid hi
    clear H F hi hL
    go_wp2_with fail
    exact hK _ _ (Below.refl _ _) HI.out rfl
  · intro L a wy Q' hL hi H F hK
    try dsimp only at hi
    obtain ⟨_, h20, rfl⟩ := H 0 ⟨.data, by simp, rfl⟩ _ rfl
    replace h20 := h20 _ rfl
    have h6 : a.tmps[6]? = some (.pointer (some ⟨g, 0, none⟩)) := F 6 rfl
    have HI := Lib.hid hi
    clear H F hi hL
    go_wp2_with fail
    exact hK _ _ (Below.refl _ _) HI.out rfl
  · intro a wy L hl hi hL Q' hK
    try dsimp only at hi
    have HB := Lib.hid hi
    clear hi hL
    obtain ⟨_, rfl, _, rfl, _, rfl, _, rfl, _, rfl, _, rfl, _, rfl, _, rfl, rfl⟩ := hl
    simp only [List.setIfInBounds_toArray, List.set_cons_zero, List.set_cons_succ]
    have HW := Lib.hid (Whole.under HB.out HG.out (Whole.lt HG.out))
    go_wp2_with (refine wpList_store_blk rfl 35 _ _ rfl g 2 (.int .u32 (bits .or .u32 a2 b2)) rfl rfl 62 _ HW.out (by simp [Value.cells]) size35 rfl ?_; intro w9 S9 W9; have HS9 := Lib.hid S9; have HW9 := Lib.hid (show Whole w9 g 62 #[.int .u32 a0, .int .u32 a1, .int .u32 (bits .or .u32 a2 b2)] from W9); clear S9 W9)
    exact HEND.out _ _ _ _ _ _ _ _ w9 ⟨HW9.out, fun B h1 h2 => (HB.out.mono h2).trans (HS9.out.below h1)⟩

theorem look_ins {L : List AEntry} (hs : L.Pairwise Bef) {k : Key4} {v : AVec} {j : Nat} {y : AEntry} (hj : L[j]? = some y) (hk : y.key = k) : L.set j (mkE k ((lookV L k).or v)) = ins (mkE k v) L := by
  have hm : (mkE k v).key ∈ L.map AEntry.key := List.mem_map.2 ⟨y, at_mem hj, hk⟩
  obtain ⟨j', y', h1, h2, h3⟩ := ins_old hs hm
  have hjj : j = j' := by
    rcases Nat.lt_trichotomy j j' with h | h | h
    · exact absurd (ord_at hs h hj h1) (by rw [← befB_iff, not_of_key (hk.trans h2.symm)]; simp)
    · exact h
    · exact absurd (ord_at hs h h1 hj) (by rw [← befB_iff, not_of_key (h2.trans hk.symm)]; simp)
  subst hjj
  obtain rfl : y = y' := Option.some.inj (hj.symm.trans h1)
  rw [h3, lookV_at hs hj hk, joinE, mkE_vecs, hk]
set_option maxRecDepth 100000 in
set_option maxHeartbeats 4000000 in
theorem add_none (w : World) (base sb : Nat) (L : List AEntry) (k : Key4) (v : AVec) (h : StoreAt w base sb L) (hb : base ≤ w.heap.size) (hz : v = AVec.zero) :
    Calls Try.prog 26 #[.pointer (some ⟨sb, 0, none⟩), .agg #[.int .i64 k.src, .int .i64 k.tgt, .int .i64 k.cls, .int .i64 k.cond], .agg #[.int .u32 v.allow, .int .u32 v.audit, .int .u32 v.dont]] w fun e w' => e = .returned (.tuple #[]) ∧ StoreAt w' base sb L ∧ Chg base w w' := by
  subst hz
  have HS := Lib.hid h
  have HB := Lib.hid hb
  clear h hb
  have q := fun W => eq_vec 0 0 0 0 0 0 W
  obtain ⟨wo, hwo⟩ : ∃ wo, wo = ((w.alloc (.cells #[.int .i64 k.src, .int .i64 k.tgt, .int .i64 k.cls, .int .i64 k.cond] 60)).alloc (.cells #[.int .u32 0, .int .u32 0, .int .u32 0] 62)) := ⟨_, rfl⟩
  have HBO := Lib.hid (show RowKit.Below w.heap.size w wo by rw [hwo]; exact ((Below.refl _ w).alloc (Nat.le_refl _) _).alloc (by simp) _)
  have HV0 := Lib.hid (show Whole wo (w.heap.size + 1) 62 #[.int .u32 0, .int .u32 0, .int .u32 0] by rw [hwo]; exact whole_two w _ #[.int .u32 0, .int .u32 0, .int .u32 0] _)
  have c0 := HV0.out.cell 0
  have c1 := HV0.out.cell 1
  have c2 := HV0.out.cell 2
  simp only [List.getElem?_toArray, List.getElem?_cons_zero, List.getElem?_cons_succ] at c0 c1 c2
  show Calls Try.prog 26 #[.pointer (some ⟨sb, 0, none⟩), .agg #[.int .i64 k.src, .int .i64 k.tgt, .int .i64 k.cls, .int .i64 k.cond], .agg #[.int .u32 0, .int .u32 0, .int .u32 0]] w _
  go_enter Try.func26, Try.ntmps26
  go_upto_region 1 with fail
  rw [← hwo]
  clear hwo
  go_wp2
  go_returns
  exact ⟨rfl, HS.out.keep HBO.out, Chg.of_below HBO.out HB.out⟩
set_option maxRecDepth 100000 in
set_option maxHeartbeats 4000000 in
theorem add_some (w : World) (base sb : Nat) (L : List AEntry) (k : Key4) (v : AVec) (h : StoreAt w base sb L) (hb : base ≤ w.heap.size) (hk : k.Ok) (hv : v.Ok) (hlen : L.length ≤ 100000) (hne : v ≠ AVec.zero) :
    Calls Try.prog 26 #[.pointer (some ⟨sb, 0, none⟩), .agg #[.int .i64 k.src, .int .i64 k.tgt, .int .i64 k.cls, .int .i64 k.cond], .agg #[.int .u32 v.allow, .int .u32 v.audit, .int .u32 v.dont]] w fun e w' => e = .returned (.tuple #[]) ∧ StoreAt w' base sb (ins (mkE k v) L) ∧ Chg base w w' := by
  obtain ⟨mb, kv, hS, hM, hO, hsb, hmb⟩ := h.ex
  have HST := Lib.hid h
  have HKO := Lib.hid hk
  have HVO := Lib.hid hv
  have HBW := Lib.hid hb
  have HLEN := Lib.hid hlen
  have hq : decide (v.allow = 0 ∧ v.audit = 0 ∧ v.dont = 0) = false := by
    rw [decide_eq_false_iff_not]
    rintro ⟨h1, h2, h3⟩
    exact hne (by cases v; simp only at h1 h2 h3; subst h1 h2 h3; rfl)
  have q := fun W => eq_vec v.allow v.audit v.dont 0 0 0 W
  rw [hq] at q
  obtain ⟨wo, hwo⟩ : ∃ wo, wo = ((w.alloc (.cells #[.int .i64 k.src, .int .i64 k.tgt, .int .i64 k.cls, .int .i64 k.cond] 60)).alloc (.cells #[.int .u32 v.allow, .int .u32 v.audit, .int .u32 v.dont] 62)) := ⟨_, rfl⟩
  have HBO := Lib.hid (show RowKit.Below w.heap.size w wo by rw [hwo]; exact ((Below.refl _ w).alloc (Nat.le_refl _) _).alloc (by simp) _)
  have HK0 := Lib.hid (show Whole wo w.heap.size 60 #[.int .i64 k.src, .int .i64 k.tgt, .int .i64 k.cls, .int .i64 k.cond] by rw [hwo]; exact (Whole.new w 60 _).alloc _)
  have HV0 := Lib.hid (show Whole wo (w.heap.size + 1) 62 #[.int .u32 v.allow, .int .u32 v.audit, .int .u32 v.dont] by rw [hwo]; exact whole_two w _ #[.int .u32 v.allow, .int .u32 v.audit, .int .u32 v.dont] _)
  have HS0 := Lib.hid (Whole.under HBO.out hS hS.lt)
  have HM0 := Lib.hid (hM.kept (HBO.out.block _ hM.lt))
  have HORD := Lib.hid h.ord
  clear h hk hv hb hS hM hO hsb hmb hq hlen hne
  go_enter Try.func26, Try.ntmps26
  go_upto_region 1 with fail
  rw [← hwo]
  clear hwo
  have c0 := HV0.out.cell 0
  have c1 := HV0.out.cell 1
  have c2 := HV0.out.cell 2
  simp only [List.getElem?_toArray, List.getElem?_cons_zero, List.getElem?_cons_succ] at c0 c1 c2
  go_upto_region 2 with fail
  clear q c0 c1 c2
  refine add2 wo sb w.heap.size mb kv k (lookV L k) _ _ _ _ _ _ _ _ _ _ _ _ _ _ _ _ _ _ _ _ _ _ _ _ _ _ _ _ _ _ _ HS0 HK0 (Lib.hid fun W hW => store_look (HM0.out.kept (hW.block _ HM0.out.lt)) HORD.out HKO.out) ?_
  intro v11 v12 v13 v14 v15 v16 g w2 hf
  obtain ⟨u, hu⟩ : ∃ u, u = lookV L k := ⟨_, rfl⟩
  rw [← hu] at hf
  have HU := Lib.hid hu
  have HW2 := Lib.hid hf.1
  have HG2 := Lib.hid hf.2.1
  have HB2 := Lib.hid hf.2.2
  clear hf hu
  go_wp2_with fail
  go_loopw [17] (fun i wr => ∃ (n : Nat) (a0 a1 a2 : Int), n ≤ 3 ∧ i = .int .i64 n ∧ Hid (a0 = (if 1 ≤ n then bits .or .u32 u.allow v.allow else u.allow) ∧ a1 = (if 2 ≤ n then bits .or .u32 u.audit v.audit else u.audit) ∧ a2 = (if 3 ≤ n then bits .or .u32 u.dont v.dont else u.dont)) ∧ Whole wr g 62 #[.int .u32 a0, .int .u32 a1, .int .u32 a2] ∧ RowKit.Below wo.heap.size wo wr) (fun i _ => 3 - (intOf i).toNat)
  case atStart => exact ⟨0, u.allow, u.audit, u.dont, by omega, rfl, Lib.hid ⟨rfl, rfl, rfl⟩, HW2.out, HB2.out⟩
  case round =>
    obtain ⟨n, a0, a1, a2, hn, rfl, HA, hG, hB⟩ := hrel
    have HGr := Lib.hid hG
    have HBr := Lib.hid hB
    have HVr := Lib.hid (Whole.under hB HV0.out HV0.out.lt)
    clear hG hB
    match n, hn with
    | 0, _ =>
      go_upto_region 6 with fail
      refine add6_0 wr (w.heap.size + 1) g a0 a1 a2 v.allow v.audit v.dont _ _ _ _ _ _ _ _ _ _ _ _ _ _ _ _ _ _ _ _ _ _ _ _ _ _ _ _ _ _ HGr HVr ?_
      intro v20 v21 v22 v23 v24 v25 v26 v27 w6 hf6
      have HW6 := Lib.hid hf6.1
      have HB6 := Lib.hid (HBr.out.trans (hf6.2 wo.heap.size HG2.out HBr.out.size))
      clear hf6
      go_wp2_with fail
      go_roundw
      case rel => exact ⟨1, bits .or .u32 a0 v.allow, a1, a2, by omega, rfl, Lib.hid (by obtain ⟨h0, h1, h2⟩ := HA.out; subst h0 h1 h2; exact ⟨rfl, rfl, rfl⟩), HW6.out, HB6.out⟩
      case measure => simp [intOf]
    | 1, _ =>
      go_upto_region 6 with fail
      refine add6_1 wr (w.heap.size + 1) g a0 a1 a2 v.allow v.audit v.dont _ _ _ _ _ _ _ _ _ _ _ _ _ _ _ _ _ _ _ _ _ _ _ _ _ _ _ _ _ _ HGr HVr ?_
      intro v20 v21 v22 v23 v24 v25 v26 v27 w6 hf6
      have HW6 := Lib.hid hf6.1
      have HB6 := Lib.hid (HBr.out.trans (hf6.2 wo.heap.size HG2.out HBr.out.size))
      clear hf6
      go_wp2_with fail
      go_roundw
      case rel => exact ⟨2, a0, bits .or .u32 a1 v.audit, a2, by omega, rfl, Lib.hid (by obtain ⟨h0, h1, h2⟩ := HA.out; subst h0 h1 h2; exact ⟨rfl, rfl, rfl⟩), HW6.out, HB6.out⟩
      case measure => simp [intOf]
    | 2, _ =>
      go_upto_region 6 with fail
      refine add6_2 wr (w.heap.size + 1) g a0 a1 a2 v.allow v.audit v.dont _ _ _ _ _ _ _ _ _ _ _ _ _ _ _ _ _ _ _ _ _ _ _ _ _ _ _ _ _ _ HGr HVr ?_
      intro v20 v21 v22 v23 v24 v25 v26 v27 w6 hf6
      have HW6 := Lib.hid hf6.1
      have HB6 := Lib.hid (HBr.out.trans (hf6.2 wo.heap.size HG2.out HBr.out.size))
      clear hf6
      go_wp2_with fail
      go_roundw
      case rel => exact ⟨3, a0, a1, bits .or .u32 a2 v.dont, by omega, rfl, Lib.hid (by obtain ⟨h0, h1, h2⟩ := HA.out; subst h0 h1 h2; exact ⟨rfl, rfl, rfl⟩), HW6.out, HB6.out⟩
      case measure => simp [intOf]
    | 3, _ =>
      have hA : a0 = ((lookV L k).or v).allow ∧ a1 = ((lookV L k).or v).audit ∧ a2 = ((lookV L k).or v).dont := by
        rw [← HU.out]
        obtain ⟨h0, h1, h2⟩ := HA.out
        exact ⟨h0, h1, h2⟩
      obtain ⟨rfl, rfl, rfl⟩ := hA
      have HKr := Lib.hid (Whole.under HBr.out HK0.out HK0.out.lt)
      have HG9 := Lib.hid (show Whole wr g 62 #[.int .u32 ((lookV L k).or v).allow, .int .u32 ((lookV L k).or v).audit, .int .u32 ((lookV L k).or v).dont] from HGr.out)
      have kq0 : wr.cell? ⟨w.heap.size, 0, none⟩ = some (.int .i64 k.src) := HKr.out.cell 0
      have kq1 : wr.cell? ⟨w.heap.size, 1, none⟩ = some (.int .i64 k.tgt) := HKr.out.cell 1
      have kq2 : wr.cell? ⟨w.heap.size, 2, none⟩ = some (.int .i64 k.cls) := HKr.out.cell 2
      have kq3 : wr.cell? ⟨w.heap.size, 3, none⟩ = some (.int .i64 k.cond) := HKr.out.cell 3
      have gq0 : wr.cell? ⟨g, 0, none⟩ = some (.int .u32 ((lookV L k).or v).allow) := HG9.out.cell 0
      have gq1 : wr.cell? ⟨g, 1, none⟩ = some (.int .u32 ((lookV L k).or v).audit) := HG9.out.cell 1
      have gq2 : wr.cell? ⟨g, 2, none⟩ = some (.int .u32 ((lookV L k).or v).dont) := HG9.out.cell 2
      have HSr := Lib.hid (HST.out.keep (HBO.out.trans (HBr.out.mono HBO.out.size)))
      have HBw := Lib.hid (Nat.le_trans HBW.out (Nat.le_trans HBO.out.size HBr.out.size))
      have HCH := Lib.hid (Chg.of_below (HBO.out.trans (HBr.out.mono HBO.out.size)) HBW.out)
      by_cases hin : k ∈ L.map AEntry.key
      · obtain ⟨y, hy, hyk⟩ := List.mem_map.1 hin
        obtain ⟨j, hj⟩ := List.getElem?_of_mem hy
        have HP := Lib.hid (put_old wr base sb L k ((lookV L k).or v) HSr.out HBw.out HKO.out (AVec.or_ok _ _) j y hj hyk)
        have HE := Lib.hid (look_ins (v := v) HORD.out hj hyk)
        clear hin hy hyk hj
        go_wp2_with (go_at_call 40; go_must (refine HP.out.mono ?_; rintro e w9 ⟨rfl, hs9, hc9⟩; rw [HE.out] at hs9; have HS9 := Lib.hid hs9; have HC9 := Lib.hid hc9; clear hs9 hc9))
        go_returns
        exact ⟨rfl, HS9.out, HCH.out.trans HC9.out⟩
      · have HP := Lib.hid (put_new wr base sb L k ((lookV L k).or v) HSr.out HBw.out HKO.out (AVec.or_ok _ _) hin HLEN.out)
        have HE := Lib.hid (show (lookV L k).or v = v by rw [lookV_no hin, AVec.zero_or HVO.out])
        clear hin
        go_wp2_with (go_at_call 40; go_must (refine HP.out.mono ?_; rintro e w9 ⟨rfl, hs9, hc9⟩; rw [HE.out] at hs9; have HS9 := Lib.hid hs9; have HC9 := Lib.hid hc9; clear hs9 hc9))
        go_returns
        exact ⟨rfl, HS9.out, HCH.out.trans HC9.out⟩
theorem add_any (w : World) (base sb : Nat) (L : List AEntry) (k : Key4) (v : AVec) (h : StoreAt w base sb L) (hb : base ≤ w.heap.size) (hk : k.Ok) (hv : v.Ok) (hlen : L.length ≤ 100000) :
    Calls Try.prog 26 #[.pointer (some ⟨sb, 0, none⟩), .agg #[.int .i64 k.src, .int .i64 k.tgt, .int .i64 k.cls, .int .i64 k.cond], .agg #[.int .u32 v.allow, .int .u32 v.audit, .int .u32 v.dont]] w fun e w' => e = .returned (.tuple #[]) ∧ StoreAt w' base sb (addR L (mkE k v)) ∧ Chg base w w' := by
  unfold addR
  by_cases hz : v = AVec.zero
  · rw [if_pos (show (mkE k v).vecs = AVec.zero from hz)]
    exact add_none w base sb L k v h hb hz
  · rw [if_neg (show ¬ (mkE k v).vecs = AVec.zero from hz)]
    exact add_some w base sb L k v h hb hk hv hlen hz
end Go.Proofs.Ytlkkdpoliafjbaa
