import Derived.Test.YtlkkdpoliafjbaaP8
/-
  The reference's Merge: plain laws, its regions.
-/
namespace Go.Proofs.Ytlkkdpoliafjbaa
open Go Go.WideMaps Go.RowKit

/-! ### Where an entry goes -/
theorem ins_skip {x : AEntry} : ∀ (k : Nat) (O : List AEntry), k ≤ O.length → (∀ q y, q < k → O[q]? = some y → befB y x = true) → ins x O = O.take k ++ ins x (O.drop k)
  | 0, O, _, _ => by simp
  | k + 1, [], h, _ => by simp at h
  | k + 1, y :: O, h, hl => by
    have h1 := hl 0 y (by omega) rfl
    rw [ins, if_neg (by rw [befB_asymm h1]; simp), if_pos h1, List.take_succ_cons, List.drop_succ_cons, List.cons_append, ins_skip k O (by simpa using h) fun q z hq hz => hl (q + 1) z (by omega) (by simpa using hz)]
theorem ins_join {x y : AEntry} {k : Nat} {O : List AEntry} (hk : O[k]? = some y) (hl : ∀ q z, q < k → O[q]? = some z → befB z x = true) (h1 : befB y x = false) (h2 : befB x y = false) : ins x O = O.set k (joinE y x) := by
  obtain ⟨hlt, rfl⟩ := List.getElem?_eq_some_iff.1 hk
  rw [ins_skip k O (Nat.le_of_lt hlt) hl, List.drop_eq_getElem_cons hlt, ins, if_neg (by rw [h2]; simp), if_neg (by rw [h1]; simp), List.set_eq_take_append_cons_drop, if_pos hlt]
theorem ins_here {x : AEntry} {k : Nat} {O : List AEntry} (hk : k ≤ O.length) (hl : ∀ q z, q < k → O[q]? = some z → befB z x = true) (h : ∀ y, O[k]? = some y → befB x y = true) : ins x O = O.take k ++ x :: O.drop k := by
  rw [ins_skip k O hk hl]
  congr 1
  by_cases hlt : k < O.length
  · rw [List.drop_eq_getElem_cons hlt, ins, if_pos (h _ (List.getElem?_eq_getElem hlt))]
  · rw [List.drop_of_length_le (by omega)]
    rfl
/-! ### Own entries -/
theorem own_cur {w : World} {bs g cap n k : Nat} {t : TypeId} {xs : List Value} (h : w.ownsRow bs t k (.slice (some ⟨g, 0, none⟩) n cap) n xs) : ∃ cur, bs ≤ g ∧ Whole w g t cur ∧ n ≤ cap ∧ cap ≤ maxLen ∧ cur.size = cap * k ∧ cur.toList.take (n * k) = xs := by
  rcases h.2 with ⟨h0, _⟩ | ⟨g', cap', cur, hv, hg, hh, h1, h2, h3, h4⟩
  · cases h0
  · cases hv
    exact ⟨cur, hg, hh, h1, h2, h3, h4⟩
theorem ents_flat (O : List AEntry) : (O.map AEntry.cells).flatten = O.flatMap AEntry.cells := by rw [List.flatMap_def]
theorem own_ents {w : World} {bs n : Nat} {v : Value} {O : List AEntry} (h : w.ownsRow bs 37 7 v n (O.flatMap AEntry.cells)) : O.length = n := by
  have h1 := h.1
  rw [flat_length entry_len] at h1
  omega
theorem own_ent_cell {w : World} {bs g cap n k : Nat} {O : List AEntry} {z : AEntry} (h : w.ownsRow bs 37 7 (.slice (some ⟨g, 0, none⟩) n cap) n (O.flatMap AEntry.cells)) (hk : O[k]? = some z) (f : Nat) (_ : f < 7) (u : Value) (hu : z.cells[f]? = some u) : w.cell? ⟨g, k * 7 + f, none⟩ = some u := by
  obtain ⟨cur, -, hw, -, -, -, ht⟩ := own_cur h
  rw [← ents_flat] at ht
  exact row_cell hw (fun x hx => by obtain ⟨q, -, rfl⟩ := List.mem_map.1 hx; rfl) ht (by rw [List.getElem?_map, hk]; rfl) f u hu
theorem ent_set {w w' : World} {bs g cap n k f : Nat} {O : List AEntry} {z z' : AEntry} {vs : List Value} {cur : Array Value} (h : w.ownsRow bs 37 7 (.slice (some ⟨g, 0, none⟩) n cap) n (O.flatMap AEntry.cells)) (hk : O[k]? = some z) (hf : f + vs.length ≤ 7) (hc : z'.cells = z.cells.take f ++ vs ++ z.cells.drop (f + vs.length)) (hw : Whole w g 37 cur) (hw' : Whole w' g 37 (splice cur (k * 7 + f) vs)) :
    w'.ownsRow bs 37 7 (.slice (some ⟨g, 0, none⟩) n cap) n ((O.set k z').flatMap AEntry.cells) := by
  obtain ⟨cur', hg, hwc, h1, h2, h3, h4⟩ := own_cur h
  have e : cur' = cur := by
    unfold Whole at hw hwc
    rw [hw] at hwc
    cases hwc
    rfl
  subst e
  rw [← ents_flat] at h4
  have := own_splice (w' := w') (xs := O.map AEntry.cells) (fun x hx => by obtain ⟨q, -, rfl⟩ := List.mem_map.1 hx; rfl) (by rw [List.length_map]; exact own_ents h) hg h1 h2 h3 h4 (show (O.map AEntry.cells)[k]? = some z.cells by rw [List.getElem?_map, hk]; rfl) hf hw'
  rw [← hc, ← List.map_set, ents_flat] at this
  exact this
theorem set_self {O : List AEntry} {k : Nat} {y z : AEntry} (h : O[k]? = some z) : (O.set k y)[k]? = some y := by rw [List.getElem?_set, if_pos rfl, if_pos (List.getElem?_eq_some_iff.1 h).1]
theorem set_at {O : List AEntry} {k : Nat} {y : AEntry} (h : O[k]? = some y) : O.set k y = O := by
  obtain ⟨hl, rfl⟩ := List.getElem?_eq_some_iff.1 h
  exact List.set_getElem_self hl
def half (b0 b1 b2 : Bool) (y x : AEntry) : AEntry := ⟨y.src, y.tgt, y.cls, y.cond, if b0 then bits .or .u32 y.allow x.allow else y.allow, if b1 then bits .or .u32 y.audit x.audit else y.audit, if b2 then bits .or .u32 y.dont x.dont else y.dont⟩
set_option maxRecDepth 100000 in
set_option maxHeartbeats 4000000 in
theorem m6_0 (w : World) (eb : Nat) (x : AEntry) (x0 x1 x2 x3 x4 x6 x7 x8 x9 x10 x11 x12 x13 x14 x15 x16 x17 x18 x19 x20 x21 x22 x23 x24 x25 x26 x27 x28 x29 x30 x31 x32 x33 x34 x35 x36 x37 x38 x39 x40 x41 x42 x43 x44 x45 x46 x47 x48 x49 x50 x51 x52 x53 x54 x55 x56 x57 x58 x59 x60 x61 x62 x63 x64 x65 x66 x67 x68 x69 x70 x71 x72 x73 x74 x75 x76 x77 x78 x79 x80 x81 x82 x83 x84 x85 x86 x87 x88 x89 x90 x91 x92 x93 x94 x95 x96 x97 x98 x99 x100 x101 x102 x103 x104 x105 x106 x107 x108 x109 : Value) (HX : Hid (Whole w eb 37 #[.int .i64 x.src, .int .i64 x.tgt, .int .i64 x.cls, .int .i64 x.cond, .int .u32 x.allow, .int .u32 x.audit, .int .u32 x.dont])) (HQ : Hid (¬ x.allow = 0))
    {Q' : Exit → Act → World → Prop} (hend : ∀ (v17 v18 v19 v20 v21 v22 v23 v24 v25 v26 v27 v28 : Value) , True → Q' .normal ⟨#[x0, x1, x2, x3, x4, .pointer (some ⟨eb, 0, none⟩), x6, x7, x8, x9, x10, x11, x12, x13, x14, x15, x16, v17, v18, v19, v20, v21, v22, v23, v24, v25, v26, v27, v28, .bool false, x30, x31, x32, x33, x34, x35, x36, x37, x38, x39, x40, x41, x42, x43, x44, x45, x46, x47, x48, x49, x50, x51, x52, x53, x54, x55, x56, x57, x58, x59, x60, x61, x62, x63, x64, x65, x66, x67, x68, x69, x70, x71, x72, x73, x74, x75, x76, x77, x78, x79, x80, x81, x82, x83, x84, x85, x86, x87, x88, x89, x90, x91, x92, x93, x94, x95, x96, x97, x98, x99, x100, x101, x102, x103, x104, x105, x106, x107, x108, x109], []⟩ w) :
    Code.wp Try.prog (findRegion7 6 ((Try.f28.body).getD .skip)) Q' ⟨#[x0, x1, x2, x3, x4, .pointer (some ⟨eb, 0, none⟩), x6, x7, x8, x9, x10, x11, x12, x13, x14, x15, x16, x17, x18, x19, x20, x21, x22, x23, x24, x25, x26, x27, x28, x29, x30, x31, x32, x33, x34, x35, x36, x37, x38, x39, x40, x41, x42, x43, x44, x45, x46, x47, x48, x49, x50, x51, x52, x53, x54, x55, x56, x57, x58, x59, x60, x61, x62, x63, x64, x65, x66, x67, x68, x69, x70, x71, x72, x73, x74, x75, x76, x77, x78, x79, x80, x81, x82, x83, x84, x85, x86, x87, x88, x89, x90, x91, x92, x93, x94, x95, x96, x97, x98, x99, x100, x101, x102, x103, x104, x105, x106, x107, x108, x109], []⟩ w := by
  have HEND := Lib.hid hend
  clear hend
  conv => arg 2; whnf
  conv => arg 4; dsimp only
  have kx4 : w.cell? ⟨eb, 4, none⟩ = some (.int .u32 x.allow) := HX.out.cell 4
  have kx5 : w.cell? ⟨eb, 5, none⟩ = some (.int .u32 x.audit) := HX.out.cell 5
  have kx6 : w.cell? ⟨eb, 6, none⟩ = some (.int .u32 x.dont) := HX.out.cell 6
  have h0 : (x.allow == 0) = false := by simpa using HQ.out
  go_wp2_with fail
  exact HEND.out _ _ _ _ _ _ _ _ _ _ _ _ trivial
set_option maxRecDepth 100000 in
set_option maxHeartbeats 4000000 in
theorem m6_1 (w : World) (eb : Nat) (x : AEntry) (x0 x1 x2 x3 x4 x6 x7 x8 x9 x10 x11 x12 x13 x14 x15 x16 x17 x18 x19 x20 x21 x22 x23 x24 x25 x26 x27 x28 x29 x30 x31 x32 x33 x34 x35 x36 x37 x38 x39 x40 x41 x42 x43 x44 x45 x46 x47 x48 x49 x50 x51 x52 x53 x54 x55 x56 x57 x58 x59 x60 x61 x62 x63 x64 x65 x66 x67 x68 x69 x70 x71 x72 x73 x74 x75 x76 x77 x78 x79 x80 x81 x82 x83 x84 x85 x86 x87 x88 x89 x90 x91 x92 x93 x94 x95 x96 x97 x98 x99 x100 x101 x102 x103 x104 x105 x106 x107 x108 x109 : Value) (HX : Hid (Whole w eb 37 #[.int .i64 x.src, .int .i64 x.tgt, .int .i64 x.cls, .int .i64 x.cond, .int .u32 x.allow, .int .u32 x.audit, .int .u32 x.dont])) (HQ : Hid (x.allow = 0 ∧ ¬ x.audit = 0))
    {Q' : Exit → Act → World → Prop} (hend : ∀ (v17 v18 v19 v20 v21 v22 v23 v24 v25 v26 v27 v28 : Value) , True → Q' .normal ⟨#[x0, x1, x2, x3, x4, .pointer (some ⟨eb, 0, none⟩), x6, x7, x8, x9, x10, x11, x12, x13, x14, x15, x16, v17, v18, v19, v20, v21, v22, v23, v24, v25, v26, v27, v28, .bool false, x30, x31, x32, x33, x34, x35, x36, x37, x38, x39, x40, x41, x42, x43, x44, x45, x46, x47, x48, x49, x50, x51, x52, x53, x54, x55, x56, x57, x58, x59, x60, x61, x62, x63, x64, x65, x66, x67, x68, x69, x70, x71, x72, x73, x74, x75, x76, x77, x78, x79, x80, x81, x82, x83, x84, x85, x86, x87, x88, x89, x90, x91, x92, x93, x94, x95, x96, x97, x98, x99, x100, x101, x102, x103, x104, x105, x106, x107, x108, x109], []⟩ w) :
    Code.wp Try.prog (findRegion7 6 ((Try.f28.body).getD .skip)) Q' ⟨#[x0, x1, x2, x3, x4, .pointer (some ⟨eb, 0, none⟩), x6, x7, x8, x9, x10, x11, x12, x13, x14, x15, x16, x17, x18, x19, x20, x21, x22, x23, x24, x25, x26, x27, x28, x29, x30, x31, x32, x33, x34, x35, x36, x37, x38, x39, x40, x41, x42, x43, x44, x45, x46, x47, x48, x49, x50, x51, x52, x53, x54, x55, x56, x57, x58, x59, x60, x61, x62, x63, x64, x65, x66, x67, x68, x69, x70, x71, x72, x73, x74, x75, x76, x77, x78, x79, x80, x81, x82, x83, x84, x85, x86, x87, x88, x89, x90, x91, x92, x93, x94, x95, x96, x97, x98, x99, x100, x101, x102, x103, x104, x105, x106, x107, x108, x109], []⟩ w := by
  have HEND := Lib.hid hend
  clear hend
  conv => arg 2; whnf
  conv => arg 4; dsimp only
  have kx4 : w.cell? ⟨eb, 4, none⟩ = some (.int .u32 x.allow) := HX.out.cell 4
  have kx5 : w.cell? ⟨eb, 5, none⟩ = some (.int .u32 x.audit) := HX.out.cell 5
  have kx6 : w.cell? ⟨eb, 6, none⟩ = some (.int .u32 x.dont) := HX.out.cell 6
  have h0 : (x.allow == 0) = true := by simpa using HQ.out.1
  have h1 : (x.audit == 0) = false := by simpa using HQ.out.2
  go_wp2_with fail
  exact HEND.out _ _ _ _ _ _ _ _ _ _ _ _ trivial
set_option maxRecDepth 100000 in
set_option maxHeartbeats 4000000 in
theorem m6_2 (w : World) (eb : Nat) (x : AEntry) (x0 x1 x2 x3 x4 x6 x7 x8 x9 x10 x11 x12 x13 x14 x15 x16 x17 x18 x19 x20 x21 x22 x23 x24 x25 x26 x27 x28 x29 x30 x31 x32 x33 x34 x35 x36 x37 x38 x39 x40 x41 x42 x43 x44 x45 x46 x47 x48 x49 x50 x51 x52 x53 x54 x55 x56 x57 x58 x59 x60 x61 x62 x63 x64 x65 x66 x67 x68 x69 x70 x71 x72 x73 x74 x75 x76 x77 x78 x79 x80 x81 x82 x83 x84 x85 x86 x87 x88 x89 x90 x91 x92 x93 x94 x95 x96 x97 x98 x99 x100 x101 x102 x103 x104 x105 x106 x107 x108 x109 : Value) (HX : Hid (Whole w eb 37 #[.int .i64 x.src, .int .i64 x.tgt, .int .i64 x.cls, .int .i64 x.cond, .int .u32 x.allow, .int .u32 x.audit, .int .u32 x.dont])) (HQ : Hid (x.allow = 0 ∧ x.audit = 0 ∧ ¬ x.dont = 0))
    {Q' : Exit → Act → World → Prop} (hend : ∀ (v17 v18 v19 v20 v21 v22 v23 v24 v25 v26 v27 v28 : Value) , True → Q' .normal ⟨#[x0, x1, x2, x3, x4, .pointer (some ⟨eb, 0, none⟩), x6, x7, x8, x9, x10, x11, x12, x13, x14, x15, x16, v17, v18, v19, v20, v21, v22, v23, v24, v25, v26, v27, v28, .bool false, x30, x31, x32, x33, x34, x35, x36, x37, x38, x39, x40, x41, x42, x43, x44, x45, x46, x47, x48, x49, x50, x51, x52, x53, x54, x55, x56, x57, x58, x59, x60, x61, x62, x63, x64, x65, x66, x67, x68, x69, x70, x71, x72, x73, x74, x75, x76, x77, x78, x79, x80, x81, x82, x83, x84, x85, x86, x87, x88, x89, x90, x91, x92, x93, x94, x95, x96, x97, x98, x99, x100, x101, x102, x103, x104, x105, x106, x107, x108, x109], []⟩ w) :
    Code.wp Try.prog (findRegion7 6 ((Try.f28.body).getD .skip)) Q' ⟨#[x0, x1, x2, x3, x4, .pointer (some ⟨eb, 0, none⟩), x6, x7, x8, x9, x10, x11, x12, x13, x14, x15, x16, x17, x18, x19, x20, x21, x22, x23, x24, x25, x26, x27, x28, x29, x30, x31, x32, x33, x34, x35, x36, x37, x38, x39, x40, x41, x42, x43, x44, x45, x46, x47, x48, x49, x50, x51, x52, x53, x54, x55, x56, x57, x58, x59, x60, x61, x62, x63, x64, x65, x66, x67, x68, x69, x70, x71, x72, x73, x74, x75, x76, x77, x78, x79, x80, x81, x82, x83, x84, x85, x86, x87, x88, x89, x90, x91, x92, x93, x94, x95, x96, x97, x98, x99, x100, x101, x102, x103, x104, x105, x106, x107, x108, x109], []⟩ w := by
  have HEND := Lib.hid hend
  clear hend
  conv => arg 2; whnf
  conv => arg 4; dsimp only
  have kx4 : w.cell? ⟨eb, 4, none⟩ = some (.int .u32 x.allow) := HX.out.cell 4
  have kx5 : w.cell? ⟨eb, 5, none⟩ = some (.int .u32 x.audit) := HX.out.cell 5
  have kx6 : w.cell? ⟨eb, 6, none⟩ = some (.int .u32 x.dont) := HX.out.cell 6
  have h0 : (x.allow == 0) = true := by simpa using HQ.out.1
  have h1 : (x.audit == 0) = true := by simpa using HQ.out.2.1
  have h2 : (x.dont == 0) = false := by simpa using HQ.out.2.2
  go_wp2_with fail
  exact HEND.out _ _ _ _ _ _ _ _ _ _ _ _ trivial
set_option maxRecDepth 100000 in
set_option maxHeartbeats 4000000 in
theorem m6_3 (w : World) (eb : Nat) (x : AEntry) (x0 x1 x2 x3 x4 x6 x7 x8 x9 x10 x11 x12 x13 x14 x15 x16 x17 x18 x19 x20 x21 x22 x23 x24 x25 x26 x27 x28 x29 x30 x31 x32 x33 x34 x35 x36 x37 x38 x39 x40 x41 x42 x43 x44 x45 x46 x47 x48 x49 x50 x51 x52 x53 x54 x55 x56 x57 x58 x59 x60 x61 x62 x63 x64 x65 x66 x67 x68 x69 x70 x71 x72 x73 x74 x75 x76 x77 x78 x79 x80 x81 x82 x83 x84 x85 x86 x87 x88 x89 x90 x91 x92 x93 x94 x95 x96 x97 x98 x99 x100 x101 x102 x103 x104 x105 x106 x107 x108 x109 : Value) (HX : Hid (Whole w eb 37 #[.int .i64 x.src, .int .i64 x.tgt, .int .i64 x.cls, .int .i64 x.cond, .int .u32 x.allow, .int .u32 x.audit, .int .u32 x.dont])) (HQ : Hid (x.allow = 0 ∧ x.audit = 0 ∧ x.dont = 0))
    {Q' : Exit → Act → World → Prop} (hend : ∀ (v17 v18 v19 v20 v21 v22 v23 v24 v25 v26 v27 v28 : Value) , True → Q' .normal ⟨#[x0, x1, x2, x3, x4, .pointer (some ⟨eb, 0, none⟩), x6, x7, x8, x9, x10, x11, x12, x13, x14, x15, x16, v17, v18, v19, v20, v21, v22, v23, v24, v25, v26, v27, v28, .bool true, x30, x31, x32, x33, x34, x35, x36, x37, x38, x39, x40, x41, x42, x43, x44, x45, x46, x47, x48, x49, x50, x51, x52, x53, x54, x55, x56, x57, x58, x59, x60, x61, x62, x63, x64, x65, x66, x67, x68, x69, x70, x71, x72, x73, x74, x75, x76, x77, x78, x79, x80, x81, x82, x83, x84, x85, x86, x87, x88, x89, x90, x91, x92, x93, x94, x95, x96, x97, x98, x99, x100, x101, x102, x103, x104, x105, x106, x107, x108, x109], []⟩ w) :
    Code.wp Try.prog (findRegion7 6 ((Try.f28.body).getD .skip)) Q' ⟨#[x0, x1, x2, x3, x4, .pointer (some ⟨eb, 0, none⟩), x6, x7, x8, x9, x10, x11, x12, x13, x14, x15, x16, x17, x18, x19, x20, x21, x22, x23, x24, x25, x26, x27, x28, x29, x30, x31, x32, x33, x34, x35, x36, x37, x38, x39, x40, x41, x42, x43, x44, x45, x46, x47, x48, x49, x50, x51, x52, x53, x54, x55, x56, x57, x58, x59, x60, x61, x62, x63, x64, x65, x66, x67, x68, x69, x70, x71, x72, x73, x74, x75, x76, x77, x78, x79, x80, x81, x82, x83, x84, x85, x86, x87, x88, x89, x90, x91, x92, x93, x94, x95, x96, x97, x98, x99, x100, x101, x102, x103, x104, x105, x106, x107, x108, x109], []⟩ w := by
  have HEND := Lib.hid hend
  clear hend
  conv => arg 2; whnf
  conv => arg 4; dsimp only
  have kx4 : w.cell? ⟨eb, 4, none⟩ = some (.int .u32 x.allow) := HX.out.cell 4
  have kx5 : w.cell? ⟨eb, 5, none⟩ = some (.int .u32 x.audit) := HX.out.cell 5
  have kx6 : w.cell? ⟨eb, 6, none⟩ = some (.int .u32 x.dont) := HX.out.cell 6
  have h0 : (x.allow == 0) = true := by simpa using HQ.out.1
  have h1 : (x.audit == 0) = true := by simpa using HQ.out.2.1
  have h2 : (x.dont == 0) = true := by simpa using HQ.out.2.2
  go_wp2_with fail
  exact HEND.out _ _ _ _ _ _ _ _ _ _ _ _ trivial
set_option maxRecDepth 100000 in
set_option maxHeartbeats 4000000 in
theorem m8_t (w : World) (eb g cap n k : Nat) (x y : AEntry) (q : Bool) (x0 x1 x2 x4 x7 x8 x9 x10 x11 x12 x13 x14 x15 x16 x17 x18 x19 x20 x21 x22 x23 x24 x25 x26 x27 x28 x29 x30 x31 x32 x33 x34 x35 x36 x37 x38 x39 x40 x41 x42 x43 x44 x45 x46 x47 x48 x49 x50 x51 x52 x53 x54 x55 x56 x57 x58 x59 x60 x61 x62 x63 x64 x65 x66 x67 x68 x69 x70 x71 x72 x73 x74 x75 x76 x77 x78 x79 x80 x81 x82 x83 x84 x85 x86 x87 x88 x89 x90 x91 x92 x93 x94 x95 x96 x97 x98 x99 x100 x101 x102 x103 x104 x105 x106 x107 x108 x109 : Value) (hk : k < n) (HX : Hid (Whole w eb 37 #[.int .i64 x.src, .int .i64 x.tgt, .int .i64 x.cls, .int .i64 x.cond, .int .u32 x.allow, .int .u32 x.audit, .int .u32 x.dont])) (HE : Hid (∀ j u, y.cells[j]? = some u → w.cell? ⟨g, k * 7 + j, none⟩ = some u)) (HC : Hid (∀ W, Calls Try.prog 18 #[.agg #[.int .i64 y.src, .int .i64 y.tgt, .int .i64 y.cls, .int .i64 y.cond, .int .u32 y.allow, .int .u32 y.audit, .int .u32 y.dont], .agg #[.int .i64 x.src, .int .i64 x.tgt, .int .i64 x.cls, .int .i64 x.cond, .int .u32 x.allow, .int .u32 x.audit, .int .u32 x.dont]] W fun e w' => e = .returned (.bool q) ∧ RowKit.Below W.heap.size W w'))
    {Q' : Exit → Act → World → Prop} (hend : ∀ (v30 v31 v32 v33 v34 v35 v36 v37 v38 v39 v40 : Value) (w' : World), RowKit.Below w.heap.size w w' → Q' .normal ⟨#[x0, x1, x2, .slice (some ⟨g, 0, none⟩) n cap, x4, .pointer (some ⟨eb, 0, none⟩), .int .i64 (k : Nat), x7, x8, x9, x10, x11, x12, x13, x14, x15, x16, x17, x18, x19, x20, x21, x22, x23, x24, x25, x26, x27, x28, x29, v30, v31, v32, v33, v34, v35, v36, v37, v38, v39, v40, .bool q, x42, x43, x44, x45, x46, x47, x48, x49, x50, x51, x52, x53, x54, x55, x56, x57, x58, x59, x60, x61, x62, x63, x64, x65, x66, x67, x68, x69, x70, x71, x72, x73, x74, x75, x76, x77, x78, x79, x80, x81, x82, x83, x84, x85, x86, x87, x88, x89, x90, x91, x92, x93, x94, x95, x96, x97, x98, x99, x100, x101, x102, x103, x104, x105, x106, x107, x108, x109], []⟩ w') :
    Code.wp Try.prog (findRegion7 8 ((Try.f28.body).getD .skip)) Q' ⟨#[x0, x1, x2, .slice (some ⟨g, 0, none⟩) n cap, x4, .pointer (some ⟨eb, 0, none⟩), .int .i64 (k : Nat), x7, x8, x9, x10, x11, x12, x13, x14, x15, x16, x17, x18, x19, x20, x21, x22, x23, x24, x25, x26, x27, x28, x29, x30, x31, x32, x33, x34, x35, x36, x37, x38, x39, x40, x41, x42, x43, x44, x45, x46, x47, x48, x49, x50, x51, x52, x53, x54, x55, x56, x57, x58, x59, x60, x61, x62, x63, x64, x65, x66, x67, x68, x69, x70, x71, x72, x73, x74, x75, x76, x77, x78, x79, x80, x81, x82, x83, x84, x85, x86, x87, x88, x89, x90, x91, x92, x93, x94, x95, x96, x97, x98, x99, x100, x101, x102, x103, x104, x105, x106, x107, x108, x109], []⟩ w := by
  have HEND := Lib.hid hend
  clear hend
  conv => arg 2; whnf
  conv => arg 4; dsimp only
  refine wp_region_goods [some 30, some 31, some 32, some 33, some 34, some 35, some 36, some 37, some 38, some 39, some 40] [isW (.int .i64 (k : Nat)), isW (.slice (some ⟨g, 0, none⟩) n cap), isW (.int .i64 (n : Nat)), isW (.bool true), isW (.bool true), isW (.slice (some ⟨g, 0, none⟩) n cap), isW (.int .i64 (k : Nat)), isW (.pointer (some ⟨g, k * 7, none⟩)), isW (.agg #[.int .i64 y.src, .int .i64 y.tgt, .int .i64 y.cls, .int .i64 y.cond, .int .u32 y.allow, .int .u32 y.audit, .int .u32 y.dont]), isW (.agg #[.int .i64 x.src, .int .i64 x.tgt, .int .i64 x.cls, .int .i64 x.cond, .int .u32 x.allow, .int .u32 x.audit, .int .u32 x.dont]), isW (.bool q)] (fun _ w' => RowKit.Below w.heap.size w w') [] (by kernel_rfl) (by kernel_rfl) (by kernel_rfl) rfl (by decide) rfl rfl ((Below.refl _ _).drew) ⟨lastsW_is _, lastsW_is _, lastsW_is _, lastsW_is _, lastsW_is _, lastsW_is _, lastsW_is _, lastsW_is _, lastsW_is _, lastsW_is _, lastsW_is _, trivial⟩ ⟨?_, ?_, ?_, ?_, ?_, ?_, ?_, ?_, ?_, ?_, ?_, ?_⟩
  · intro L a wy Q' hL hi H F hK
    try dsimp only at hi
    have h6 : a.tmps[6]? = some (.int .i64 (k : Nat)) := F 6 rfl
    have HI := Lib.hid hi
    clear H F hi hL
    go_wp2_with fail
    exact hK _ _ (Below.refl _ _) HI.out rfl
  · intro L a wy Q' hL hi H F hK
    try dsimp only at hi
    have h3 : a.tmps[3]? = some (.slice (some ⟨g, 0, none⟩) n cap) := F 3 rfl
    have HI := Lib.hid hi
    clear H F hi hL
    go_wp2_with fail
    exact hK _ _ (Below.refl _ _) HI.out rfl
  · intro L a wy Q' hL hi H F hK
    try dsimp only at hi
    obtain ⟨_, h31, rfl⟩ := H 1 ⟨.data, by simp, rfl⟩ _ rfl
    replace h31 := h31 _ rfl
    have HI := Lib.hid hi
    clear H F hi hL
    go_wp2_with fail
    exact hK _ _ (Below.refl _ _) HI.out rfl
  · intro L a wy Q' hL hi H F hK
    try dsimp only at hi
    obtain ⟨_, h30, rfl⟩ := H 0 ⟨.data, by simp, rfl⟩ _ rfl
    replace h30 := h30 _ rfl
    obtain ⟨_, h32, rfl⟩ := H 2 ⟨.data, by simp, rfl⟩ _ rfl
    replace h32 := h32 _ rfl
    have HI := Lib.hid hi
    clear H F hi hL
    go_wp2_with fail
    exact hK _ _ (Below.refl _ _) HI.out rfl
  · intro L a wy Q' hL hi H F hK
    try dsimp only at hi
    obtain ⟨_, h33, rfl⟩ := H 3 ⟨.data, by simp, rfl⟩ _ rfl
    replace h33 := h33 _ rfl
    have HI := Lib.hid hi
    clear H F hi hL
    go_wp2_with fail
    exact hK _ _ (Below.refl _ _) HI.out rfl
  · intro L a wy Q' hL hi H F hK
    try dsimp only at hi
    obtain ⟨_, h34, rfl⟩ := H 4 ⟨.guard, by simp, rfl⟩ _ rfl
    replace h34 := h34 _ rfl
    have h3 : a.tmps[3]? = some (.slice (some ⟨g, 0, none⟩) n cap) := F 3 rfl
    have HI := Lib.hid hi
    clear H F hi hL
    go_wp2_with fail
    exact hK _ _ (Below.refl _ _) HI.out rfl
  · intro L a wy Q' hL hi H F hK
    try dsimp only at hi
    obtain ⟨_, h34, rfl⟩ := H 4 ⟨.guard, by simp, rfl⟩ _ rfl
    replace h34 := h34 _ rfl
    have h6 : a.tmps[6]? = some (.int .i64 (k : Nat)) := F 6 rfl
    have HI := Lib.hid hi
    clear H F hi hL
    go_wp2_with fail
    exact hK _ _ (Below.refl _ _) HI.out rfl
  · intro L a wy Q' hL hi H F hK
    try dsimp only at hi
    obtain ⟨_, h35, rfl⟩ := H 5 ⟨.data, by simp, rfl⟩ _ rfl
    replace h35 := h35 _ rfl
    obtain ⟨_, h36, rfl⟩ := H 6 ⟨.data, by simp, rfl⟩ _ rfl
    replace h36 := h36 _ rfl
    obtain ⟨_, h34, rfl⟩ := H 4 ⟨.guard, by simp, rfl⟩ _ rfl
    replace h34 := h34 _ rfl
    have HI := Lib.hid hi
    clear H F hi hL
    go_wp2_with fail
    exact hK _ _ (Below.refl _ _) HI.out rfl
  · intro L a wy Q' hL hi H F hK
    try dsimp only at hi
    obtain ⟨_, h37, rfl⟩ := H 7 ⟨.data, by simp, rfl⟩ _ rfl
    replace h37 := h37 _ rfl
    obtain ⟨_, h34, rfl⟩ := H 4 ⟨.guard, by simp, rfl⟩ _ rfl
    replace h34 := h34 _ rfl
    have HI := Lib.hid hi
    clear H F hi hL
    have kq0 : wy.cell? ⟨g, k * 7, none⟩ = some (.int .i64 y.src) := cell_later HI.out (HE.out 0 _ rfl)
    have kq1 : wy.cell? ⟨g, k * 7 + 1, none⟩ = some (.int .i64 y.tgt) := cell_later HI.out (HE.out 1 _ rfl)
    have kq2 : wy.cell? ⟨g, k * 7 + 2, none⟩ = some (.int .i64 y.cls) := cell_later HI.out (HE.out 2 _ rfl)
    have kq3 : wy.cell? ⟨g, k * 7 + 3, none⟩ = some (.int .i64 y.cond) := cell_later HI.out (HE.out 3 _ rfl)
    have kq4 : wy.cell? ⟨g, k * 7 + 4, none⟩ = some (.int .u32 y.allow) := cell_later HI.out (HE.out 4 _ rfl)
    have kq5 : wy.cell? ⟨g, k * 7 + 5, none⟩ = some (.int .u32 y.audit) := cell_later HI.out (HE.out 5 _ rfl)
    have kq6 : wy.cell? ⟨g, k * 7 + 6, none⟩ = some (.int .u32 y.dont) := cell_later HI.out (HE.out 6 _ rfl)
    go_wp2_with fail
    exact hK _ _ (Below.refl _ _) HI.out rfl
  · intro L a wy Q' hL hi H F hK
    try dsimp only at hi
    obtain ⟨_, h34, rfl⟩ := H 4 ⟨.guard, by simp, rfl⟩ _ rfl
    replace h34 := h34 _ rfl
    have h5 : a.tmps[5]? = some (.pointer (some ⟨eb, 0, none⟩)) := F 5 rfl
    have HI := Lib.hid hi
    clear H F hi hL
    have kq0 : wy.cell? ⟨eb, 0, none⟩ = some (.int .i64 x.src) := (Whole.under HI.out HX.out (Whole.lt HX.out)).cell 0
    have kq1 : wy.cell? ⟨eb, 1, none⟩ = some (.int .i64 x.tgt) := (Whole.under HI.out HX.out (Whole.lt HX.out)).cell 1
    have kq2 : wy.cell? ⟨eb, 2, none⟩ = some (.int .i64 x.cls) := (Whole.under HI.out HX.out (Whole.lt HX.out)).cell 2
    have kq3 : wy.cell? ⟨eb, 3, none⟩ = some (.int .i64 x.cond) := (Whole.under HI.out HX.out (Whole.lt HX.out)).cell 3
    have kq4 : wy.cell? ⟨eb, 4, none⟩ = some (.int .u32 x.allow) := (Whole.under HI.out HX.out (Whole.lt HX.out)).cell 4
    have kq5 : wy.cell? ⟨eb, 5, none⟩ = some (.int .u32 x.audit) := (Whole.under HI.out HX.out (Whole.lt HX.out)).cell 5
    have kq6 : wy.cell? ⟨eb, 6, none⟩ = some (.int .u32 x.dont) := (Whole.under HI.out HX.out (Whole.lt HX.out)).cell 6
    go_wp2_with fail
    exact hK _ _ (Below.refl _ _) HI.out rfl
  · intro L a wy Q' hL hi H F hK
    try dsimp only at hi
    obtain ⟨_, h38, rfl⟩ := H 8 ⟨.data, by simp, rfl⟩ _ rfl
    replace h38 := h38 _ rfl
    obtain ⟨_, h39, rfl⟩ := H 9 ⟨.data, by simp, rfl⟩ _ rfl
    replace h39 := h39 _ rfl
    obtain ⟨_, h34, rfl⟩ := H 4 ⟨.guard, by simp, rfl⟩ _ rfl
    replace h34 := h34 _ rfl
    have HI := Lib.hid hi
    clear H F hi hL
    have HK := Lib.hid hK
    clear hK
    go_wp2_with (go_at_call 18; go_must (refine (HC.out wy).mono ?_; rintro e w1 ⟨rfl, hb1⟩))
    exact HK.out _ _ hb1 (HI.out.trans (hb1.mono HI.out.size)) rfl
  · intro a wy L hl hi hL Q' hK
    try dsimp only at hi
    have HB := Lib.hid hi
    clear hi hL
    obtain ⟨_, rfl, _, rfl, _, rfl, _, rfl, _, rfl, _, rfl, _, rfl, _, rfl, _, rfl, _, rfl, _, rfl, rfl⟩ := hl
    simp only [List.setIfInBounds_toArray, List.set_cons_zero, List.set_cons_succ]
    go_wp2_with fail
    exact HEND.out _ _ _ _ _ _ _ _ _ _ _ _ HB.out
set_option maxRecDepth 100000 in
set_option maxHeartbeats 4000000 in
theorem m8_f (w : World) (eb c n k : Nat) (ad : Option Addr) (x0 x1 x2 x4 x7 x8 x9 x10 x11 x12 x13 x14 x15 x16 x17 x18 x19 x20 x21 x22 x23 x24 x25 x26 x27 x28 x29 x30 x31 x32 x33 x34 x35 x36 x37 x38 x39 x40 x41 x42 x43 x44 x45 x46 x47 x48 x49 x50 x51 x52 x53 x54 x55 x56 x57 x58 x59 x60 x61 x62 x63 x64 x65 x66 x67 x68 x69 x70 x71 x72 x73 x74 x75 x76 x77 x78 x79 x80 x81 x82 x83 x84 x85 x86 x87 x88 x89 x90 x91 x92 x93 x94 x95 x96 x97 x98 x99 x100 x101 x102 x103 x104 x105 x106 x107 x108 x109 : Value) (hk : ¬ k < n)
    {Q' : Exit → Act → World → Prop} (hend : ∀ (v30 v31 v32 v33 v34 v35 v36 v37 v38 v39 v40 : Value) (w' : World), RowKit.Below w.heap.size w w' → Q' .normal ⟨#[x0, x1, x2, .slice ad n c, x4, .pointer (some ⟨eb, 0, none⟩), .int .i64 (k : Nat), x7, x8, x9, x10, x11, x12, x13, x14, x15, x16, x17, x18, x19, x20, x21, x22, x23, x24, x25, x26, x27, x28, x29, v30, v31, v32, v33, v34, v35, v36, v37, v38, v39, v40, .bool false, x42, x43, x44, x45, x46, x47, x48, x49, x50, x51, x52, x53, x54, x55, x56, x57, x58, x59, x60, x61, x62, x63, x64, x65, x66, x67, x68, x69, x70, x71, x72, x73, x74, x75, x76, x77, x78, x79, x80, x81, x82, x83, x84, x85, x86, x87, x88, x89, x90, x91, x92, x93, x94, x95, x96, x97, x98, x99, x100, x101, x102, x103, x104, x105, x106, x107, x108, x109], []⟩ w') :
    Code.wp Try.prog (findRegion7 8 ((Try.f28.body).getD .skip)) Q' ⟨#[x0, x1, x2, .slice ad n c, x4, .pointer (some ⟨eb, 0, none⟩), .int .i64 (k : Nat), x7, x8, x9, x10, x11, x12, x13, x14, x15, x16, x17, x18, x19, x20, x21, x22, x23, x24, x25, x26, x27, x28, x29, x30, x31, x32, x33, x34, x35, x36, x37, x38, x39, x40, x41, x42, x43, x44, x45, x46, x47, x48, x49, x50, x51, x52, x53, x54, x55, x56, x57, x58, x59, x60, x61, x62, x63, x64, x65, x66, x67, x68, x69, x70, x71, x72, x73, x74, x75, x76, x77, x78, x79, x80, x81, x82, x83, x84, x85, x86, x87, x88, x89, x90, x91, x92, x93, x94, x95, x96, x97, x98, x99, x100, x101, x102, x103, x104, x105, x106, x107, x108, x109], []⟩ w := by
  have HEND := Lib.hid hend
  clear hend
  conv => arg 2; whnf
  conv => arg 4; dsimp only
  refine wp_region_goods [some 30, some 31, some 32, some 33, some 34, some 35, some 36, some 37, some 38, some 39, some 40] [isW (.int .i64 (k : Nat)), isW (.slice ad n c), isW (.int .i64 (n : Nat)), isW (.bool false), isW (.bool false), isW (undef), isW (undef), isW (undef), isW (undef), isW (undef), isW (undef)] (fun _ w' => RowKit.Below w.heap.size w w') [] (by kernel_rfl) (by kernel_rfl) (by kernel_rfl) rfl (by decide) rfl rfl ((Below.refl _ _).drew) ⟨lastsW_is _, lastsW_is _, lastsW_is _, lastsW_is _, lastsW_is _, lastsW_is _, lastsW_is _, lastsW_is _, lastsW_is _, lastsW_is _, lastsW_is _, trivial⟩ ⟨?_, ?_, ?_, ?_, ?_, ?_, ?_, ?_, ?_, ?_, ?_, ?_⟩
  · intro L a wy Q' hL hi H F hK
    try dsimp only at hi
    have h6 : a.tmps[6]? = some (.int .i64 (k : Nat)) := F 6 rfl
    have HI := Lib.hid hi
    clear H F hi hL
    go_wp2_with fail
    exact hK _ _ (Below.refl _ _) HI.out rfl
  · intro L a wy Q' hL hi H F hK
    try dsimp only at hi
    have h3 : a.tmps[3]? = some (.slice ad n c) := F 3 rfl
    have HI := Lib.hid hi
    clear H F hi hL
    go_wp2_with fail
    exact hK _ _ (Below.refl _ _) HI.out rfl
  · intro L a wy Q' hL hi H F hK
    try dsimp only at hi
    obtain ⟨_, h31, rfl⟩ := H 1 ⟨.data, by simp, rfl⟩ _ rfl
    replace h31 := h31 _ rfl
    have HI := Lib.hid hi
    clear H F hi hL
    go_wp2_with fail
    exact hK _ _ (Below.refl _ _) HI.out rfl
  · intro L a wy Q' hL hi H F hK
    try dsimp only at hi
    obtain ⟨_, h30, rfl⟩ := H 0 ⟨.data, by simp, rfl⟩ _ rfl
    replace h30 := h30 _ rfl
    obtain ⟨_, h32, rfl⟩ := H 2 ⟨.data, by simp, rfl⟩ _ rfl
    replace h32 := h32 _ rfl
    have HI := Lib.hid hi
    clear H F hi hL
    go_wp2_with fail
    exact hK _ _ (Below.refl _ _) HI.out rfl
  · intro L a wy Q' hL hi H F hK
    try dsimp only at hi
    obtain ⟨_, h33, rfl⟩ := H 3 ⟨.data, by simp, rfl⟩ _ rfl
    replace h33 := h33 _ rfl
    have HI := Lib.hid hi
    clear H F hi hL
    go_wp2_with fail
    exact hK _ _ (Below.refl _ _) HI.out rfl
  · intro L a wy Q' hL hi H F hK
    try dsimp only at hi
    obtain ⟨_, h34, rfl⟩ := H 4 ⟨.guard, by simp, rfl⟩ _ rfl
    replace h34 := h34 _ rfl
    have h3 : a.tmps[3]? = some (.slice ad n c) := F 3 rfl
    have HI := Lib.hid hi
    clear H F hi hL
    refine wpList_skip (by simp [Region.wanted, yielded, h34]) ?_
    exact hK _ _ (Below.refl _ _) HI.out rfl
  · intro L a wy Q' hL hi H F hK
    try dsimp only at hi
    obtain ⟨_, h34, rfl⟩ := H 4 ⟨.guard, by simp, rfl⟩ _ rfl
    replace h34 := h34 _ rfl
    have h6 : a.tmps[6]? = some (.int .i64 (k : Nat)) := F 6 rfl
    have HI := Lib.hid hi
    clear H F hi hL
    refine wpList_skip (by simp [Region.wanted, yielded, h34]) ?_
    exact hK _ _ (Below.refl _ _) HI.out rfl
  · intro L a wy Q' hL hi H F hK
    try dsimp only at hi
    obtain ⟨_, h35, rfl⟩ := H 5 ⟨.data, by simp, rfl⟩ _ rfl
    replace h35 := h35 _ rfl
    obtain ⟨_, h36, rfl⟩ := H 6 ⟨.data, by simp, rfl⟩ _ rfl
    replace h36 := h36 _ rfl
    obtain ⟨_, h34, rfl⟩ := H 4 ⟨.guard, by simp, rfl⟩ _ rfl
    replace h34 := h34 _ rfl
    have HI := Lib.hid hi
    clear H F hi hL
    refine wpList_skip (by simp [Region.wanted, yielded, h34]) ?_
    exact hK _ _ (Below.refl _ _) HI.out rfl
  · intro L a wy Q' hL hi H F hK
    try dsimp only at hi
    obtain ⟨_, h37, rfl⟩ := H 7 ⟨.data, by simp, rfl⟩ _ rfl
    replace h37 := h37 _ rfl
    obtain ⟨_, h34, rfl⟩ := H 4 ⟨.guard, by simp, rfl⟩ _ rfl
    replace h34 := h34 _ rfl
    have HI := Lib.hid hi
    clear H F hi hL
    refine wpList_skip (by simp [Region.wanted, yielded, h34]) ?_
    exact hK _ _ (Below.refl _ _) HI.out rfl
  · intro L a wy Q' hL hi H F hK
    try dsimp only at hi
    obtain ⟨_, h34, rfl⟩ := H 4 ⟨.guard, by simp, rfl⟩ _ rfl
    replace h34 := h34 _ rfl
    have h5 : a.tmps[5]? = some (.pointer (some ⟨eb, 0, none⟩)) := F 5 rfl
    have HI := Lib.hid hi
    clear H F hi hL
    refine wpList_skip (by simp [Region.wanted, yielded, h34]) ?_
    exact hK _ _ (Below.refl _ _) HI.out rfl
  · intro L a wy Q' hL hi H F hK
    try dsimp only at hi
    obtain ⟨_, h38, rfl⟩ := H 8 ⟨.data, by simp, rfl⟩ _ rfl
    replace h38 := h38 _ rfl
    obtain ⟨_, h39, rfl⟩ := H 9 ⟨.data, by simp, rfl⟩ _ rfl
    replace h39 := h39 _ rfl
    obtain ⟨_, h34, rfl⟩ := H 4 ⟨.guard, by simp, rfl⟩ _ rfl
    replace h34 := h34 _ rfl
    have HI := Lib.hid hi
    clear H F hi hL
    refine wpList_skip (by simp [Region.wanted, yielded, h34]) ?_
    exact hK _ _ (Below.refl _ _) HI.out rfl
  · intro a wy L hl hi hL Q' hK
    try dsimp only at hi
    have HB := Lib.hid hi
    clear hi hL
    obtain ⟨_, rfl, _, rfl, _, rfl, _, rfl, _, rfl, _, rfl, _, rfl, _, rfl, _, rfl, _, rfl, _, rfl, rfl⟩ := hl
    simp only [List.setIfInBounds_toArray, List.set_cons_zero, List.set_cons_succ]
    go_wp2_with fail
    exact HEND.out _ _ _ _ _ _ _ _ _ _ _ _ HB.out
set_option maxRecDepth 100000 in
set_option maxHeartbeats 4000000 in
theorem m10_t (w : World) (eb g cap n k : Nat) (x y : AEntry) (q : Bool) (x0 x1 x2 x4 x7 x8 x9 x10 x11 x12 x13 x14 x15 x16 x17 x18 x19 x20 x21 x22 x23 x24 x25 x26 x27 x28 x29 x30 x31 x32 x33 x34 x35 x36 x37 x38 x39 x40 x41 x42 x43 x44 x45 x46 x47 x48 x49 x50 x51 x52 x53 x54 x55 x56 x57 x58 x59 x60 x61 x62 x63 x64 x65 x66 x67 x68 x69 x70 x71 x72 x73 x74 x75 x76 x77 x78 x79 x80 x81 x82 x83 x84 x85 x86 x87 x88 x89 x90 x91 x92 x93 x94 x95 x96 x97 x98 x99 x100 x101 x102 x103 x104 x105 x106 x107 x108 x109 : Value) (hk : k < n) (HX : Hid (Whole w eb 37 #[.int .i64 x.src, .int .i64 x.tgt, .int .i64 x.cls, .int .i64 x.cond, .int .u32 x.allow, .int .u32 x.audit, .int .u32 x.dont])) (HE : Hid (∀ j u, y.cells[j]? = some u → w.cell? ⟨g, k * 7 + j, none⟩ = some u)) (HC : Hid (∀ W, Calls Try.prog 18 #[.agg #[.int .i64 x.src, .int .i64 x.tgt, .int .i64 x.cls, .int .i64 x.cond, .int .u32 x.allow, .int .u32 x.audit, .int .u32 x.dont], .agg #[.int .i64 y.src, .int .i64 y.tgt, .int .i64 y.cls, .int .i64 y.cond, .int .u32 y.allow, .int .u32 y.audit, .int .u32 y.dont]] W fun e w' => e = .returned (.bool q) ∧ RowKit.Below W.heap.size W w'))
    {Q' : Exit → Act → World → Prop} (hend : ∀ (v44 v45 v46 v47 v48 v49 v50 v51 v52 v53 v54 v55 : Value) (w' : World), RowKit.Below w.heap.size w w' → Q' .normal ⟨#[x0, x1, x2, .slice (some ⟨g, 0, none⟩) n cap, x4, .pointer (some ⟨eb, 0, none⟩), .int .i64 (k : Nat), x7, x8, x9, x10, x11, x12, x13, x14, x15, x16, x17, x18, x19, x20, x21, x22, x23, x24, x25, x26, x27, x28, x29, x30, x31, x32, x33, x34, x35, x36, x37, x38, x39, x40, x41, x42, x43, v44, v45, v46, v47, v48, v49, v50, v51, v52, v53, v54, v55, .bool (!q), x57, x58, x59, x60, x61, x62, x63, x64, x65, x66, x67, x68, x69, x70, x71, x72, x73, x74, x75, x76, x77, x78, x79, x80, x81, x82, x83, x84, x85, x86, x87, x88, x89, x90, x91, x92, x93, x94, x95, x96, x97, x98, x99, x100, x101, x102, x103, x104, x105, x106, x107, x108, x109], []⟩ w') :
    Code.wp Try.prog (findRegion7 10 ((Try.f28.body).getD .skip)) Q' ⟨#[x0, x1, x2, .slice (some ⟨g, 0, none⟩) n cap, x4, .pointer (some ⟨eb, 0, none⟩), .int .i64 (k : Nat), x7, x8, x9, x10, x11, x12, x13, x14, x15, x16, x17, x18, x19, x20, x21, x22, x23, x24, x25, x26, x27, x28, x29, x30, x31, x32, x33, x34, x35, x36, x37, x38, x39, x40, x41, x42, x43, x44, x45, x46, x47, x48, x49, x50, x51, x52, x53, x54, x55, x56, x57, x58, x59, x60, x61, x62, x63, x64, x65, x66, x67, x68, x69, x70, x71, x72, x73, x74, x75, x76, x77, x78, x79, x80, x81, x82, x83, x84, x85, x86, x87, x88, x89, x90, x91, x92, x93, x94, x95, x96, x97, x98, x99, x100, x101, x102, x103, x104, x105, x106, x107, x108, x109], []⟩ w := by
  have HEND := Lib.hid hend
  clear hend
  conv => arg 2; whnf
  conv => arg 4; dsimp only
  refine wp_region_goods [some 44, some 45, some 46, some 47, some 48, some 49, some 50, some 51, some 52, some 53, some 54, some 55] [isW (.int .i64 (k : Nat)), isW (.slice (some ⟨g, 0, none⟩) n cap), isW (.int .i64 (n : Nat)), isW (.bool true), isW (.bool true), isW (.agg #[.int .i64 x.src, .int .i64 x.tgt, .int .i64 x.cls, .int .i64 x.cond, .int .u32 x.allow, .int .u32 x.audit, .int .u32 x.dont]), isW (.slice (some ⟨g, 0, none⟩) n cap), isW (.int .i64 (k : Nat)), isW (.pointer (some ⟨g, k * 7, none⟩)), isW (.agg #[.int .i64 y.src, .int .i64 y.tgt, .int .i64 y.cls, .int .i64 y.cond, .int .u32 y.allow, .int .u32 y.audit, .int .u32 y.dont]), isW (.bool q), isW (.bool (!q))] (fun _ w' => RowKit.Below w.heap.size w w') [] (by kernel_rfl) (by kernel_rfl) (by kernel_rfl) rfl (by decide) rfl rfl ((Below.refl _ _).drew) ⟨lastsW_is _, lastsW_is _, lastsW_is _, lastsW_is _, lastsW_is _, lastsW_is _, lastsW_is _, lastsW_is _, lastsW_is _, lastsW_is _, lastsW_is _, lastsW_is _, trivial⟩ ⟨?_, ?_, ?_, ?_, ?_, ?_, ?_, ?_, ?_, ?_, ?_, ?_, ?_⟩
  · intro L a wy Q' hL hi H F hK
    try dsimp only at hi
    have h6 : a.tmps[6]? = some (.int .i64 (k : Nat)) := F 6 rfl
    have HI := Lib.hid hi
    clear H F hi hL
    go_wp2_with fail
    exact hK _ _ (Below.refl _ _) HI.out rfl
  · intro L a wy Q' hL hi H F hK
    try dsimp only at hi
    have h3 : a.tmps[3]? = some (.slice (some ⟨g, 0, none⟩) n cap) := F 3 rfl
    have HI := Lib.hid hi
    clear H F hi hL
    go_wp2_with fail
    exact hK _ _ (Below.refl _ _) HI.out rfl
  · intro L a wy Q' hL hi H F hK
    try dsimp only at hi
    obtain ⟨_, h45, rfl⟩ := H 1 ⟨.data, by simp, rfl⟩ _ rfl
    replace h45 := h45 _ rfl
    have HI := Lib.hid hi
    clear H F hi hL
    go_wp2_with fail
    exact hK _ _ (Below.refl _ _) HI.out rfl
  · intro L a wy Q' hL hi H F hK
    try dsimp only at hi
    obtain ⟨_, h44, rfl⟩ := H 0 ⟨.data, by simp, rfl⟩ _ rfl
    replace h44 := h44 _ rfl
    obtain ⟨_, h46, rfl⟩ := H 2 ⟨.data, by simp, rfl⟩ _ rfl
    replace h46 := h46 _ rfl
    have HI := Lib.hid hi
    clear H F hi hL
    go_wp2_with fail
    exact hK _ _ (Below.refl _ _) HI.out rfl
  · intro L a wy Q' hL hi H F hK
    try dsimp only at hi
    obtain ⟨_, h47, rfl⟩ := H 3 ⟨.data, by simp, rfl⟩ _ rfl
    replace h47 := h47 _ rfl
    have HI := Lib.hid hi
    clear H F hi hL
    go_wp2_with fail
    exact hK _ _ (Below.refl _ _) HI.out rfl
  · intro L a wy Q' hL hi H F hK
    try dsimp only at hi
    obtain ⟨_, h48, rfl⟩ := H 4 ⟨.guard, by simp, rfl⟩ _ rfl
    replace h48 := h48 _ rfl
    have h5 : a.tmps[5]? = some (.pointer (some ⟨eb, 0, none⟩)) := F 5 rfl
    have HI := Lib.hid hi
    clear H F hi hL
    have kq0 : wy.cell? ⟨eb, 0, none⟩ = some (.int .i64 x.src) := (Whole.under HI.out HX.out (Whole.lt HX.out)).cell 0
    have kq1 : wy.cell? ⟨eb, 1, none⟩ = some (.int .i64 x.tgt) := (Whole.under HI.out HX.out (Whole.lt HX.out)).cell 1
    have kq2 : wy.cell? ⟨eb, 2, none⟩ = some (.int .i64 x.cls) := (Whole.under HI.out HX.out (Whole.lt HX.out)).cell 2
    have kq3 : wy.cell? ⟨eb, 3, none⟩ = some (.int .i64 x.cond) := (Whole.under HI.out HX.out (Whole.lt HX.out)).cell 3
    have kq4 : wy.cell? ⟨eb, 4, none⟩ = some (.int .u32 x.allow) := (Whole.under HI.out HX.out (Whole.lt HX.out)).cell 4
    have kq5 : wy.cell? ⟨eb, 5, none⟩ = some (.int .u32 x.audit) := (Whole.under HI.out HX.out (Whole.lt HX.out)).cell 5
    have kq6 : wy.cell? ⟨eb, 6, none⟩ = some (.int .u32 x.dont) := (Whole.under HI.out HX.out (Whole.lt HX.out)).cell 6
    go_wp2_with fail
    exact hK _ _ (Below.refl _ _) HI.out rfl
  · intro L a wy Q' hL hi H F hK
    try dsimp only at hi
    obtain ⟨_, h48, rfl⟩ := H 4 ⟨.guard, by simp, rfl⟩ _ rfl
    replace h48 := h48 _ rfl
    have h3 : a.tmps[3]? = some (.slice (some ⟨g, 0, none⟩) n cap) := F 3 rfl
    have HI := Lib.hid hi
    clear H F hi hL
    go_wp2_with fail
    exact hK _ _ (Below.refl _ _) HI.out rfl
  · intro L a wy Q' hL hi H F hK
    try dsimp only at hi
    obtain ⟨_, h48, rfl⟩ := H 4 ⟨.guard, by simp, rfl⟩ _ rfl
    replace h48 := h48 _ rfl
    have h6 : a.tmps[6]? = some (.int .i64 (k : Nat)) := F 6 rfl
    have HI := Lib.hid hi
    clear H F hi hL
    go_wp2_with fail
    exact hK _ _ (Below.refl _ _) HI.out rfl
  · intro L a wy Q' hL hi H F hK
    try dsimp only at hi
    obtain ⟨_, h50, rfl⟩ := H 6 ⟨.data, by simp, rfl⟩ _ rfl
    replace h50 := h50 _ rfl
    obtain ⟨_, h51, rfl⟩ := H 7 ⟨.data, by simp, rfl⟩ _ rfl
    replace h51 := h51 _ rfl
    obtain ⟨_, h48, rfl⟩ := H 4 ⟨.guard, by simp, rfl⟩ _ rfl
    replace h48 := h48 _ rfl
    have HI := Lib.hid hi
    clear H F hi hL
    go_wp2_with fail
    exact hK _ _ (Below.refl _ _) HI.out rfl
  · intro L a wy Q' hL hi H F hK
    try dsimp only at hi
    obtain ⟨_, h52, rfl⟩ := H 8 ⟨.data, by simp, rfl⟩ _ rfl
    replace h52 := h52 _ rfl
    obtain ⟨_, h48, rfl⟩ := H 4 ⟨.guard, by simp, rfl⟩ _ rfl
    replace h48 := h48 _ rfl
    have HI := Lib.hid hi
    clear H F hi hL
    have kq0 : wy.cell? ⟨g, k * 7, none⟩ = some (.int .i64 y.src) := cell_later HI.out (HE.out 0 _ rfl)
    have kq1 : wy.cell? ⟨g, k * 7 + 1, none⟩ = some (.int .i64 y.tgt) := cell_later HI.out (HE.out 1 _ rfl)
    have kq2 : wy.cell? ⟨g, k * 7 + 2, none⟩ = some (.int .i64 y.cls) := cell_later HI.out (HE.out 2 _ rfl)
    have kq3 : wy.cell? ⟨g, k * 7 + 3, none⟩ = some (.int .i64 y.cond) := cell_later HI.out (HE.out 3 _ rfl)
    have kq4 : wy.cell? ⟨g, k * 7 + 4, none⟩ = some (.int .u32 y.allow) := cell_later HI.out (HE.out 4 _ rfl)
    have kq5 : wy.cell? ⟨g, k * 7 + 5, none⟩ = some (.int .u32 y.audit) := cell_later HI.out (HE.out 5 _ rfl)
    have kq6 : wy.cell? ⟨g, k * 7 + 6, none⟩ = some (.int .u32 y.dont) := cell_later HI.out (HE.out 6 _ rfl)
    go_wp2_with fail
    exact hK _ _ (Below.refl _ _) HI.out rfl
  · intro L a wy Q' hL hi H F hK
    try dsimp only at hi
    obtain ⟨_, h49, rfl⟩ := H 5 ⟨.data, by simp, rfl⟩ _ rfl
    replace h49 := h49 _ rfl
    obtain ⟨_, h53, rfl⟩ := H 9 ⟨.data, by simp, rfl⟩ _ rfl
    replace h53 := h53 _ rfl
    obtain ⟨_, h48, rfl⟩ := H 4 ⟨.guard, by simp, rfl⟩ _ rfl
    replace h48 := h48 _ rfl
    have HI := Lib.hid hi
    clear H F hi hL
    have HK := Lib.hid hK
    clear hK
    go_wp2_with (go_at_call 18; go_must (refine (HC.out wy).mono ?_; rintro e w1 ⟨rfl, hb1⟩))
    exact HK.out _ _ hb1 (HI.out.trans (hb1.mono HI.out.size)) rfl
  · intro L a wy Q' hL hi H F hK
    try dsimp only at hi
    obtain ⟨_, h54, rfl⟩ := H 10 ⟨.data, by simp, rfl⟩ _ rfl
    replace h54 := h54 _ rfl
    obtain ⟨_, h48, rfl⟩ := H 4 ⟨.guard, by simp, rfl⟩ _ rfl
    replace h48 := h48 _ rfl
    have HI := Lib.hid hi
    clear H F hi hL
    go_wp2_with fail
    exact hK _ _ (Below.refl _ _) HI.out rfl
  · intro a wy L hl hi hL Q' hK
    try dsimp only at hi
    have HB := Lib.hid hi
    clear hi hL
    obtain ⟨_, rfl, _, rfl, _, rfl, _, rfl, _, rfl, _, rfl, _, rfl, _, rfl, _, rfl, _, rfl, _, rfl, _, rfl, rfl⟩ := hl
    simp only [List.setIfInBounds_toArray, List.set_cons_zero, List.set_cons_succ]
    go_wp2_with fail
    exact HEND.out _ _ _ _ _ _ _ _ _ _ _ _ _ HB.out
set_option maxRecDepth 100000 in
set_option maxHeartbeats 4000000 in
theorem m10_f (w : World) (eb c n k : Nat) (ad : Option Addr) (x0 x1 x2 x4 x7 x8 x9 x10 x11 x12 x13 x14 x15 x16 x17 x18 x19 x20 x21 x22 x23 x24 x25 x26 x27 x28 x29 x30 x31 x32 x33 x34 x35 x36 x37 x38 x39 x40 x41 x42 x43 x44 x45 x46 x47 x48 x49 x50 x51 x52 x53 x54 x55 x56 x57 x58 x59 x60 x61 x62 x63 x64 x65 x66 x67 x68 x69 x70 x71 x72 x73 x74 x75 x76 x77 x78 x79 x80 x81 x82 x83 x84 x85 x86 x87 x88 x89 x90 x91 x92 x93 x94 x95 x96 x97 x98 x99 x100 x101 x102 x103 x104 x105 x106 x107 x108 x109 : Value) (hk : ¬ k < n)
    {Q' : Exit → Act → World → Prop} (hend : ∀ (v44 v45 v46 v47 v48 v49 v50 v51 v52 v53 v54 v55 : Value) (w' : World), RowKit.Below w.heap.size w w' → Q' .normal ⟨#[x0, x1, x2, .slice ad n c, x4, .pointer (some ⟨eb, 0, none⟩), .int .i64 (k : Nat), x7, x8, x9, x10, x11, x12, x13, x14, x15, x16, x17, x18, x19, x20, x21, x22, x23, x24, x25, x26, x27, x28, x29, x30, x31, x32, x33, x34, x35, x36, x37, x38, x39, x40, x41, x42, x43, v44, v45, v46, v47, v48, v49, v50, v51, v52, v53, v54, v55, .bool false, x57, x58, x59, x60, x61, x62, x63, x64, x65, x66, x67, x68, x69, x70, x71, x72, x73, x74, x75, x76, x77, x78, x79, x80, x81, x82, x83, x84, x85, x86, x87, x88, x89, x90, x91, x92, x93, x94, x95, x96, x97, x98, x99, x100, x101, x102, x103, x104, x105, x106, x107, x108, x109], []⟩ w') :
    Code.wp Try.prog (findRegion7 10 ((Try.f28.body).getD .skip)) Q' ⟨#[x0, x1, x2, .slice ad n c, x4, .pointer (some ⟨eb, 0, none⟩), .int .i64 (k : Nat), x7, x8, x9, x10, x11, x12, x13, x14, x15, x16, x17, x18, x19, x20, x21, x22, x23, x24, x25, x26, x27, x28, x29, x30, x31, x32, x33, x34, x35, x36, x37, x38, x39, x40, x41, x42, x43, x44, x45, x46, x47, x48, x49, x50, x51, x52, x53, x54, x55, x56, x57, x58, x59, x60, x61, x62, x63, x64, x65, x66, x67, x68, x69, x70, x71, x72, x73, x74, x75, x76, x77, x78, x79, x80, x81, x82, x83, x84, x85, x86, x87, x88, x89, x90, x91, x92, x93, x94, x95, x96, x97, x98, x99, x100, x101, x102, x103, x104, x105, x106, x107, x108, x109], []⟩ w := by
  have HEND := Lib.hid hend
  clear hend
  conv => arg 2; whnf
  conv => arg 4; dsimp only
  refine wp_region_goods [some 44, some 45, some 46, some 47, some 48, some 49, some 50, some 51, some 52, some 53, some 54, some 55] [isW (.int .i64 (k : Nat)), isW (.slice ad n c), isW (.int .i64 (n : Nat)), isW (.bool false), isW (.bool false), isW (undef), isW (undef), isW (undef), isW (undef), isW (undef), isW (undef), isW (undef)] (fun _ w' => RowKit.Below w.heap.size w w') [] (by kernel_rfl) (by kernel_rfl) (by kernel_rfl) rfl (by decide) rfl rfl ((Below.refl _ _).drew) ⟨lastsW_is _, lastsW_is _, lastsW_is _, lastsW_is _, lastsW_is _, lastsW_is _, lastsW_is _, lastsW_is _, lastsW_is _, lastsW_is _, lastsW_is _, lastsW_is _, trivial⟩ ⟨?_, ?_, ?_, ?_, ?_, ?_, ?_, ?_, ?_, ?_, ?_, ?_, ?_⟩
  · intro L a wy Q' hL hi H F hK
    try dsimp only at hi
    have h6 : a.tmps[6]? = some (.int .i64 (k : Nat)) := F 6 rfl
    have HI := Lib.hid hi
    clear H F hi hL
    go_wp2_with fail
    exact hK _ _ (Below.refl _ _) HI.out rfl
  · intro L a wy Q' hL hi H F hK
    try dsimp only at hi
    have h3 : a.tmps[3]? = some (.slice ad n c) := F 3 rfl
    have HI := Lib.hid hi
    clear H F hi hL
    go_wp2_with fail
    exact hK _ _ (Below.refl _ _) HI.out rfl
  · intro L a wy Q' hL hi H F hK
    try dsimp only at hi
    obtain ⟨_, h45, rfl⟩ := H 1 ⟨.data, by simp, rfl⟩ _ rfl
    replace h45 := h45 _ rfl
    have HI := Lib.hid hi
    clear H F hi hL
    go_wp2_with fail
    exact hK _ _ (Below.refl _ _) HI.out rfl
  · intro L a wy Q' hL hi H F hK
    try dsimp only at hi
    obtain ⟨_, h44, rfl⟩ := H 0 ⟨.data, by simp, rfl⟩ _ rfl
    replace h44 := h44 _ rfl
    obtain ⟨_, h46, rfl⟩ := H 2 ⟨.data, by simp, rfl⟩ _ rfl
    replace h46 := h46 _ rfl
    have HI := Lib.hid hi
    clear H F hi hL
    go_wp2_with fail
    exact hK _ _ (Below.refl _ _) HI.out rfl
  · intro L a wy Q' hL hi H F hK
    try dsimp only at hi
    obtain ⟨_, h47, rfl⟩ := H 3 ⟨.data, by simp, rfl⟩ _ rfl
    replace h47 := h47 _ rfl
    have HI := Lib.hid hi
    clear H F hi hL
    go_wp2_with fail
    exact hK _ _ (Below.refl _ _) HI.out rfl
  · intro L a wy Q' hL hi H F hK
    try dsimp only at hi
    obtain ⟨_, h48, rfl⟩ := H 4 ⟨.guard, by simp, rfl⟩ _ rfl
    replace h48 := h48 _ rfl
    have h5 : a.tmps[5]? = some (.pointer (some ⟨eb, 0, none⟩)) := F 5 rfl
    have HI := Lib.hid hi
    clear H F hi hL
    refine wpList_skip (by simp [Region.wanted, yielded, h48]) ?_
    exact hK _ _ (Below.refl _ _) HI.out rfl
  · intro L a wy Q' hL hi H F hK
    try dsimp only at hi
    obtain ⟨_, h48, rfl⟩ := H 4 ⟨.guard, by simp, rfl⟩ _ rfl
    replace h48 := h48 _ rfl
    have h3 : a.tmps[3]? = some (.slice ad n c) := F 3 rfl
    have HI := Lib.hid hi
    clear H F hi hL
    refine wpList_skip (by simp [Region.wanted, yielded, h48]) ?_
    exact hK _ _ (Below.refl _ _) HI.out rfl
  · intro L a wy Q' hL hi H F hK
    try dsimp only at hi
    obtain ⟨_, h48, rfl⟩ := H 4 ⟨.guard, by simp, rfl⟩ _ rfl
    replace h48 := h48 _ rfl
    have h6 : a.tmps[6]? = some (.int .i64 (k : Nat)) := F 6 rfl
    have HI := Lib.hid hi
    clear H F hi hL
    refine wpList_skip (by simp [Region.wanted, yielded, h48]) ?_
    exact hK _ _ (Below.refl _ _) HI.out rfl
  · intro L a wy Q' hL hi H F hK
    try dsimp only at hi
    obtain ⟨_, h50, rfl⟩ := H 6 ⟨.data, by simp, rfl⟩ _ rfl
    replace h50 := h50 _ rfl
    obtain ⟨_, h51, rfl⟩ := H 7 ⟨.data, by simp, rfl⟩ _ rfl
    replace h51 := h51 _ rfl
    obtain ⟨_, h48, rfl⟩ := H 4 ⟨.guard, by simp, rfl⟩ _ rfl
    replace h48 := h48 _ rfl
    have HI := Lib.hid hi
    clear H F hi hL
    refine wpList_skip (by simp [Region.wanted, yielded, h48]) ?_
    exact hK _ _ (Below.refl _ _) HI.out rfl
  · intro L a wy Q' hL hi H F hK
    try dsimp only at hi
    obtain ⟨_, h52, rfl⟩ := H 8 ⟨.data, by simp, rfl⟩ _ rfl
    replace h52 := h52 _ rfl
    obtain ⟨_, h48, rfl⟩ := H 4 ⟨.guard, by simp, rfl⟩ _ rfl
    replace h48 := h48 _ rfl
    have HI := Lib.hid hi
    clear H F hi hL
    refine wpList_skip (by simp [Region.wanted, yielded, h48]) ?_
    exact hK _ _ (Below.refl _ _) HI.out rfl
  · intro L a wy Q' hL hi H F hK
    try dsimp only at hi
    obtain ⟨_, h49, rfl⟩ := H 5 ⟨.data, by simp, rfl⟩ _ rfl
    replace h49 := h49 _ rfl
    obtain ⟨_, h53, rfl⟩ := H 9 ⟨.data, by simp, rfl⟩ _ rfl
    replace h53 := h53 _ rfl
    obtain ⟨_, h48, rfl⟩ := H 4 ⟨.guard, by simp, rfl⟩ _ rfl
    replace h48 := h48 _ rfl
    have HI := Lib.hid hi
    clear H F hi hL
    refine wpList_skip (by simp [Region.wanted, yielded, h48]) ?_
    exact hK _ _ (Below.refl _ _) HI.out rfl
  · intro L a wy Q' hL hi H F hK
    try dsimp only at hi
    obtain ⟨_, h54, rfl⟩ := H 10 ⟨.data, by simp, rfl⟩ _ rfl
    replace h54 := h54 _ rfl
    obtain ⟨_, h48, rfl⟩ := H 4 ⟨.guard, by simp, rfl⟩ _ rfl
    replace h48 := h48 _ rfl
    have HI := Lib.hid hi
    clear H F hi hL
    refine wpList_skip (by simp [Region.wanted, yielded, h48]) ?_
    exact hK _ _ (Below.refl _ _) HI.out rfl
  · intro a wy L hl hi hL Q' hK
    try dsimp only at hi
    have HB := Lib.hid hi
    clear hi hL
    obtain ⟨_, rfl, _, rfl, _, rfl, _, rfl, _, rfl, _, rfl, _, rfl, _, rfl, _, rfl, _, rfl, _, rfl, _, rfl, rfl⟩ := hl
    simp only [List.setIfInBounds_toArray, List.set_cons_zero, List.set_cons_succ]
    go_wp2_with fail
    exact HEND.out _ _ _ _ _ _ _ _ _ _ _ _ _ HB.out
set_option maxRecDepth 100000 in
set_option maxHeartbeats 4000000 in
theorem m11 (w : World) (bs eb g cap n k : Nat) (x y : AEntry) (O : List AEntry) (x0 x1 x2 x4 x7 x8 x9 x10 x11 x12 x13 x14 x15 x16 x17 x18 x19 x20 x21 x22 x23 x24 x25 x26 x27 x28 x29 x30 x31 x32 x33 x34 x35 x36 x37 x38 x39 x40 x41 x42 x43 x44 x45 x46 x47 x48 x49 x50 x51 x52 x53 x54 x55 x56 x57 x58 x59 x60 x61 x62 x63 x64 x65 x66 x67 x68 x69 x70 x71 x72 x73 x74 x75 x76 x77 x78 x79 x80 x81 x82 x83 x84 x85 x86 x87 x88 x89 x90 x91 x92 x93 x94 x95 x96 x97 x98 x99 x100 x101 x102 x103 x104 x105 x106 x107 x108 x109 : Value) (HX : Hid (Whole w eb 37 #[.int .i64 x.src, .int .i64 x.tgt, .int .i64 x.cls, .int .i64 x.cond, .int .u32 x.allow, .int .u32 x.audit, .int .u32 x.dont])) (HO : Hid (w.ownsRow bs 37 7 (.slice (some ⟨g, 0, none⟩) n cap) n ((O).flatMap AEntry.cells))) (HKL : Hid (O[k]? = some y)) (HKN : Hid (k < n)) (hkn : k < n) (HEG : Hid (eb ≠ g))
    {Q' : Exit → Act → World → Prop} (hend : ∀ (v57 v58 v59 v60 v61 v62 v63 v64 v65 v66 v67 v68 v69 v70 v71 v72 v73 v74 v75 v76 v77 v78 v79 v80 v81 v82 v83 v84 v85 v86 v87 v88 v89 v90 v91 v92 : Value) (w' : World), (w'.ownsRow bs 37 7 (.slice (some ⟨g, 0, none⟩) n cap) n ((O.set k (joinE y x)).flatMap AEntry.cells) ∧ RowKit.Below bs w w') → Q' .normal ⟨#[x0, x1, x2, .slice (some ⟨g, 0, none⟩) n cap, x4, .pointer (some ⟨eb, 0, none⟩), .int .i64 (k : Nat), x7, x8, x9, x10, x11, x12, x13, x14, x15, x16, x17, x18, x19, x20, x21, x22, x23, x24, x25, x26, x27, x28, x29, x30, x31, x32, x33, x34, x35, x36, x37, x38, x39, x40, x41, x42, x43, x44, x45, x46, x47, x48, x49, x50, x51, x52, x53, x54, x55, x56, v57, v58, v59, v60, v61, v62, v63, v64, v65, v66, v67, v68, v69, v70, v71, v72, v73, v74, v75, v76, v77, v78, v79, v80, v81, v82, v83, v84, v85, v86, v87, v88, v89, v90, v91, v92, x93, x94, x95, x96, x97, x98, x99, x100, x101, x102, x103, x104, x105, x106, x107, x108, x109], []⟩ w') :
    Code.wp Try.prog (findRegion7 11 ((Try.f28.body).getD .skip)) Q' ⟨#[x0, x1, x2, .slice (some ⟨g, 0, none⟩) n cap, x4, .pointer (some ⟨eb, 0, none⟩), .int .i64 (k : Nat), x7, x8, x9, x10, x11, x12, x13, x14, x15, x16, x17, x18, x19, x20, x21, x22, x23, x24, x25, x26, x27, x28, x29, x30, x31, x32, x33, x34, x35, x36, x37, x38, x39, x40, x41, x42, x43, x44, x45, x46, x47, x48, x49, x50, x51, x52, x53, x54, x55, x56, x57, x58, x59, x60, x61, x62, x63, x64, x65, x66, x67, x68, x69, x70, x71, x72, x73, x74, x75, x76, x77, x78, x79, x80, x81, x82, x83, x84, x85, x86, x87, x88, x89, x90, x91, x92, x93, x94, x95, x96, x97, x98, x99, x100, x101, x102, x103, x104, x105, x106, x107, x108, x109], []⟩ w := by
  have HEND := Lib.hid hend
  clear hend
  conv => arg 2; whnf
  conv => arg 4; dsimp only
  refine wp_region_goods [some 57, some 58, some 59, some 60, some 61, some 62, some 63, some 64, some 65, some 66, some 67, some 68, some 69, some 70, some 71, some 72, some 73, some 74, some 75, some 76, some 77, some 78, some 79, some 80, some 81, some 82, some 83, some 84, some 85, some 86, some 87, some 88, none, some 89, some 90, none, some 91, some 92] [isW (.slice (some ⟨g, 0, none⟩) n cap), isW (.int .i64 (k : Nat)), isW (.slice (some ⟨g, 0, none⟩) n cap), isW (.int .i64 (k : Nat)), isW (.slice (some ⟨g, 0, none⟩) n cap), isW (.int .i64 (k : Nat)), isW (.slice (some ⟨g, 0, none⟩) n cap), isW (.int .i64 (k : Nat)), isW (.pointer (some ⟨g, k * 7, none⟩)), isW (.pointer (some ⟨g, k * 7 + 4, none⟩)), (fun L v _ => v = .int .u32 y.allow ∧ L 10 = true), isW (.pointer (some ⟨eb, 4, none⟩)), isW (.int .u32 x.allow), (fun L v _ => v = .int .u32 (bits .or .u32 y.allow x.allow) ∧ L 10 = true), isW (.slice (some ⟨g, 0, none⟩) n cap), isW (.int .i64 (k : Nat)), isW (.pointer (some ⟨g, k * 7, none⟩)), isW (.pointer (some ⟨g, k * 7 + 5, none⟩)), (fun L v _ => v = .int .u32 y.audit ∧ L 18 = true), isW (.pointer (some ⟨eb, 5, none⟩)), isW (.int .u32 x.audit), (fun L v _ => v = .int .u32 (bits .or .u32 y.audit x.audit) ∧ L 18 = true), isW (.slice (some ⟨g, 0, none⟩) n cap), isW (.int .i64 (k : Nat)), isW (.pointer (some ⟨g, k * 7, none⟩)), isW (.pointer (some ⟨g, k * 7 + 6, none⟩)), (fun L v _ => v = .int .u32 y.dont ∧ L 26 = true), isW (.pointer (some ⟨eb, 6, none⟩)), isW (.int .u32 x.dont), (fun L v _ => v = .int .u32 (bits .or .u32 y.dont x.dont) ∧ L 26 = true), isW (.pointer (some ⟨g, k * 7, none⟩)), isW (.pointer (some ⟨g, k * 7 + 4, none⟩)), (fun _ _ _ => True), isW (.pointer (some ⟨g, k * 7, none⟩)), isW (.pointer (some ⟨g, k * 7 + 5, none⟩)), (fun _ _ _ => True), isW (.pointer (some ⟨g, k * 7, none⟩)), isW (.pointer (some ⟨g, k * 7 + 6, none⟩))] (fun L w' => w'.ownsRow bs 37 7 (.slice (some ⟨g, 0, none⟩) n cap) n ((O.set k (half (L 32) (L 35) false y x)).flatMap AEntry.cells) ∧ Whole w' eb 37 #[.int .i64 x.src, .int .i64 x.tgt, .int .i64 x.cls, .int .i64 x.cond, .int .u32 x.allow, .int .u32 x.audit, .int .u32 x.dont] ∧ RowKit.Below bs w w' ∧ (L 32 = true → L 10 = true) ∧ (L 35 = true → L 18 = true)) [32, 35] (by kernel_rfl) (by kernel_rfl) (by kernel_rfl) rfl (by decide) rfl rfl (⟨by rw [show half false false false y x = y from rfl, set_at HKL.out]; exact HO.out, HX.out, (RowKit.Below.refl _ _).drew, (fun h => by cases h), (fun h => by cases h)⟩) ⟨lastsW_is _, lastsW_is _, lastsW_is _, lastsW_is _, lastsW_is _, lastsW_is _, lastsW_is _, lastsW_is _, lastsW_is _, lastsW_is _, (fun L j v w1 w2 _ h _ => ⟨h.1, by simp [upd, h.2]⟩), lastsW_is _, lastsW_is _, (fun L j v w1 w2 _ h _ => ⟨h.1, by simp [upd, h.2]⟩), lastsW_is _, lastsW_is _, lastsW_is _, lastsW_is _, (fun L j v w1 w2 _ h _ => ⟨h.1, by simp [upd, h.2]⟩), lastsW_is _, lastsW_is _, (fun L j v w1 w2 _ h _ => ⟨h.1, by simp [upd, h.2]⟩), lastsW_is _, lastsW_is _, lastsW_is _, lastsW_is _, (fun L j v w1 w2 _ h _ => ⟨h.1, by simp [upd, h.2]⟩), lastsW_is _, lastsW_is _, (fun L j v w1 w2 _ h _ => ⟨h.1, by simp [upd, h.2]⟩), lastsW_is _, lastsW_is _, (fun _ _ _ _ _ _ _ _ => trivial), lastsW_is _, lastsW_is _, (fun _ _ _ _ _ _ _ _ => trivial), lastsW_is _, lastsW_is _, trivial⟩ ⟨?_, ?_, ?_, ?_, ?_, ?_, ?_, ?_, ?_, ?_, ?_, ?_, ?_, ?_, ?_, ?_, ?_, ?_, ?_, ?_, ?_, ?_, ?_, ?_, ?_, ?_, ?_, ?_, ?_, ?_, ?_, ?_, ?_, ?_, ?_, ?_, ?_, ?_, ?_⟩
  · intro L a wy Q' hL hi H F hK
    try dsimp only at hi
    have h3 : a.tmps[3]? = some (.slice (some ⟨g, 0, none⟩) n cap) := F 3 rfl
    have HI := Lib.hid hi
    clear H F hi hL
    go_wp2_with fail
    exact hK _ _ (Below.refl _ _) HI.out rfl
  · intro L a wy Q' hL hi H F hK
    try dsimp only at hi
    have h6 : a.tmps[6]? = some (.int .i64 (k : Nat)) := F 6 rfl
    have HI := Lib.hid hi
    clear H F hi hL
    go_wp2_with fail
    exact hK _ _ (Below.refl _ _) HI.out rfl
  · intro L a wy Q' hL hi H F hK
    try dsimp only at hi
    have h3 : a.tmps[3]? = some (.slice (some ⟨g, 0, none⟩) n cap) := F 3 rfl
    have HI := Lib.hid hi
    clear H F hi hL
    go_wp2_with fail
    exact hK _ _ (Below.refl _ _) HI.out rfl
  · intro L a wy Q' hL hi H F hK
    try dsimp only at hi
    have h6 : a.tmps[6]? = some (.int .i64 (k : Nat)) := F 6 rfl
    have HI := Lib.hid hi
    clear H F hi hL
    go_wp2_with fail
    exact hK _ _ (Below.refl _ _) HI.out rfl
  · intro L a wy Q' hL hi H F hK
    try dsimp only at hi
    have h3 : a.tmps[3]? = some (.slice (some ⟨g, 0, none⟩) n cap) := F 3 rfl
    have HI := Lib.hid hi
    clear H F hi hL
    go_wp2_with fail
    exact hK _ _ (Below.refl _ _) HI.out rfl
  · intro L a wy Q' hL hi H F hK
    try dsimp only at hi
    have h6 : a.tmps[6]? = some (.int .i64 (k : Nat)) := F 6 rfl
    have HI := Lib.hid hi
    clear H F hi hL
    go_wp2_with fail
    exact hK _ _ (Below.refl _ _) HI.out rfl
  · intro L a wy Q' hL hi H F hK
    try dsimp only at hi
    have h3 : a.tmps[3]? = some (.slice (some ⟨g, 0, none⟩) n cap) := F 3 rfl
    have HI := Lib.hid hi
    clear H F hi hL
    go_wp2_with fail
    exact hK _ _ (Below.refl _ _) HI.out rfl
  · intro L a wy Q' hL hi H F hK
    try dsimp only at hi
    have h6 : a.tmps[6]? = some (.int .i64 (k : Nat)) := F 6 rfl
    have HI := Lib.hid hi
    clear H F hi hL
    go_wp2_with fail
    exact hK _ _ (Below.refl _ _) HI.out rfl
  · intro L a wy Q' hL hi H F hK
    try dsimp only at hi
    obtain ⟨_, h63, rfl⟩ := H 6 ⟨.data, by simp, rfl⟩ _ rfl
    replace h63 := h63 _ rfl
    obtain ⟨_, h64, rfl⟩ := H 7 ⟨.data, by simp, rfl⟩ _ rfl
    replace h64 := h64 _ rfl
    have HI := Lib.hid hi
    clear H F hi hL
    go_wp2_with fail
    exact hK _ _ (Below.refl _ _) HI.out rfl
  · intro L a wy Q' hL hi H F hK
    try dsimp only at hi
    obtain ⟨_, h65, rfl⟩ := H 8 ⟨.data, by simp, rfl⟩ _ rfl
    replace h65 := h65 _ rfl
    have HI := Lib.hid hi
    clear H F hi hL
    go_wp2_with fail
    exact hK _ _ (Below.refl _ _) HI.out rfl
  · intro L a wy Q' hL hi H F hK
    try dsimp only at hi
    obtain ⟨_, h66, rfl⟩ := H 9 ⟨.data, by simp, rfl⟩ _ rfl
    replace h66 := h66 _ rfl
    have HI := Lib.hid hi
    clear H F hi
    have hl : L 32 = false := by
      cases e : L 32 with
      | false => rfl
      | true => rw [HI.out.2.2.2.1 e] at hL; cases hL
    have hz := own_ent_cell HI.out.1 (show (O.set k (half (L 32) (L 35) false y x))[k]? = some (half (L 32) (L 35) false y x) from set_self HKL.out) 4 (by decide) (.int .u32 (half (L 32) (L 35) false y x).allow) rfl
    rw [show (half (L 32) (L 35) false y x).allow = y.allow from by rw [hl]; rfl] at hz
    have HK9 := Lib.hid hK
    clear hK hl hL
    go_wp2_with fail
    exact HK9.out _ _ (Below.refl _ _) ⟨HI.out.1, HI.out.2.1, HI.out.2.2.1, (fun _ => rfl), HI.out.2.2.2.2⟩ ⟨rfl, rfl⟩
  · intro L a wy Q' hL hi H F hK
    try dsimp only at hi
    have h5 : a.tmps[5]? = some (.pointer (some ⟨eb, 0, none⟩)) := F 5 rfl
    have HI := Lib.hid hi
    clear H F hi hL
    go_wp2_with fail
    exact hK _ _ (Below.refl _ _) HI.out rfl
  · intro L a wy Q' hL hi H F hK
    try dsimp only at hi
    obtain ⟨_, h68, rfl⟩ := H 11 ⟨.data, by simp, rfl⟩ _ rfl
    replace h68 := h68 _ rfl
    have HI := Lib.hid hi
    clear H F hi hL
    have kq0 : wy.cell? ⟨eb, 4, none⟩ = some (.int .u32 x.allow) := HI.out.2.1.cell 4
    go_wp2_with fail
    exact hK _ _ (Below.refl _ _) HI.out rfl
  · intro L a wy Q' hL hi H F hK
    try dsimp only at hi
    obtain ⟨v67, h67, hv67⟩ := H 10 ⟨.data, by simp, rfl⟩ _ rfl
    replace h67 := h67 _ rfl
    have HV67 := Lib.hid hv67
    clear hv67
    obtain ⟨_, h69, rfl⟩ := H 12 ⟨.data, by simp, rfl⟩ _ rfl
    replace h69 := h69 _ rfl
    have HI := Lib.hid hi
    clear H F hi hL
    obtain ⟨hv1, hv2⟩ := HV67.out
    subst hv1
    have HK9 := Lib.hid hK
    have HV2 := Lib.hid hv2
    clear hK hv2
    go_wp2_with fail
    exact HK9.out _ _ (Below.refl _ _) HI.out ⟨rfl, HV2.out⟩
  · intro L a wy Q' hL hi H F hK
    try dsimp only at hi
    have h3 : a.tmps[3]? = some (.slice (some ⟨g, 0, none⟩) n cap) := F 3 rfl
    have HI := Lib.hid hi
    clear H F hi hL
    go_wp2_with fail
    exact hK _ _ (Below.refl _ _) HI.out rfl
  · intro L a wy Q' hL hi H F hK
    try dsimp only at hi
    have h6 : a.tmps[6]? = some (.int .i64 (k : Nat)) := F 6 rfl
    have HI := Lib.hid hi
    clear H F hi hL
    go_wp2_with fail
    exact hK _ _ (Below.refl _ _) HI.out rfl
  · intro L a wy Q' hL hi H F hK
    try dsimp only at hi
    obtain ⟨_, h71, rfl⟩ := H 14 ⟨.data, by simp, rfl⟩ _ rfl
    replace h71 := h71 _ rfl
    obtain ⟨_, h72, rfl⟩ := H 15 ⟨.data, by simp, rfl⟩ _ rfl
    replace h72 := h72 _ rfl
    have HI := Lib.hid hi
    clear H F hi hL
    go_wp2_with fail
    exact hK _ _ (Below.refl _ _) HI.out rfl
  · intro L a wy Q' hL hi H F hK
    try dsimp only at hi
    obtain ⟨_, h73, rfl⟩ := H 16 ⟨.data, by simp, rfl⟩ _ rfl
    replace h73 := h73 _ rfl
    have HI := Lib.hid hi
    clear H F hi hL
    go_wp2_with fail
    exact hK _ _ (Below.refl _ _) HI.out rfl
  · intro L a wy Q' hL hi H F hK
    try dsimp only at hi
    obtain ⟨_, h74, rfl⟩ := H 17 ⟨.data, by simp, rfl⟩ _ rfl
    replace h74 := h74 _ rfl
    have HI := Lib.hid hi
    clear H F hi
    have hl : L 35 = false := by
      cases e : L 35 with
      | false => rfl
      | true => rw [HI.out.2.2.2.2 e] at hL; cases hL
    have hz := own_ent_cell HI.out.1 (show (O.set k (half (L 32) (L 35) false y x))[k]? = some (half (L 32) (L 35) false y x) from set_self HKL.out) 5 (by decide) (.int .u32 (half (L 32) (L 35) false y x).audit) rfl
    rw [show (half (L 32) (L 35) false y x).audit = y.audit from by rw [hl]; rfl] at hz
    have HK9 := Lib.hid hK
    clear hK hl hL
    go_wp2_with fail
    exact HK9.out _ _ (Below.refl _ _) ⟨HI.out.1, HI.out.2.1, HI.out.2.2.1, HI.out.2.2.2.1, (fun _ => rfl)⟩ ⟨rfl, rfl⟩
  · intro L a wy Q' hL hi H F hK
    try dsimp only at hi
    have h5 : a.tmps[5]? = some (.pointer (some ⟨eb, 0, none⟩)) := F 5 rfl
    have HI := Lib.hid hi
    clear H F hi hL
    go_wp2_with fail
    exact hK _ _ (Below.refl _ _) HI.out rfl
  · intro L a wy Q' hL hi H F hK
    try dsimp only at hi
    obtain ⟨_, h76, rfl⟩ := H 19 ⟨.data, by simp, rfl⟩ _ rfl
    replace h76 := h76 _ rfl
    have HI := Lib.hid hi
    clear H F hi hL
    have kq0 : wy.cell? ⟨eb, 5, none⟩ = some (.int .u32 x.audit) := HI.out.2.1.cell 5
    go_wp2_with fail
    exact hK _ _ (Below.refl _ _) HI.out rfl
  · intro L a wy Q' hL hi H F hK
    try dsimp only at hi
    obtain ⟨v75, h75, hv75⟩ := H 18 ⟨.data, by simp, rfl⟩ _ rfl
    replace h75 := h75 _ rfl
    have HV75 := Lib.hid hv75
    clear hv75
    obtain ⟨_, h77, rfl⟩ := H 20 ⟨.data, by simp, rfl⟩ _ rfl
    replace h77 := h77 _ rfl
    have HI := Lib.hid hi
    clear H F hi hL
    obtain ⟨hv1, hv2⟩ := HV75.out
    subst hv1
    have HK9 := Lib.hid hK
    have HV2 := Lib.hid hv2
    clear hK hv2
    go_wp2_with fail
    exact HK9.out _ _ (Below.refl _ _) HI.out ⟨rfl, HV2.out⟩
  · intro L a wy Q' hL hi H F hK
    try dsimp only at hi
    have h3 : a.tmps[3]? = some (.slice (some ⟨g, 0, none⟩) n cap) := F 3 rfl
    have HI := Lib.hid hi
    clear H F hi hL
    go_wp2_with fail
    exact hK _ _ (Below.refl _ _) HI.out rfl
  · intro L a wy Q' hL hi H F hK
    try dsimp only at hi
    have h6 : a.tmps[6]? = some (.int .i64 (k : Nat)) := F 6 rfl
    have HI := Lib.hid hi
    clear H F hi hL
    go_wp2_with fail
    exact hK _ _ (Below.refl _ _) HI.out rfl
  · intro L a wy Q' hL hi H F hK
    try dsimp only at hi
    obtain ⟨_, h79, rfl⟩ := H 22 ⟨.data, by simp, rfl⟩ _ rfl
    replace h79 := h79 _ rfl
    obtain ⟨_, h80, rfl⟩ := H 23 ⟨.data, by simp, rfl⟩ _ rfl
    replace h80 := h80 _ rfl
    have HI := Lib.hid hi
    clear H F hi hL
    go_wp2_with fail
    exact hK _ _ (Below.refl _ _) HI.out rfl
  · intro L a wy Q' hL hi H F hK
    try dsimp only at hi
    obtain ⟨_, h81, rfl⟩ := H 24 ⟨.data, by simp, rfl⟩ _ rfl
    replace h81 := h81 _ rfl
    have HI := Lib.hid hi
    clear H F hi hL
    go_wp2_with fail
    exact hK _ _ (Below.refl _ _) HI.out rfl
  · intro L a wy Q' hL hi H F hK
    try dsimp only at hi
    obtain ⟨_, h82, rfl⟩ := H 25 ⟨.data, by simp, rfl⟩ _ rfl
    replace h82 := h82 _ rfl
    have HI := Lib.hid hi
    clear H F hi
    have hz := own_ent_cell HI.out.1 (show (O.set k (half (L 32) (L 35) false y x))[k]? = some (half (L 32) (L 35) false y x) from set_self HKL.out) 6 (by decide) (.int .u32 (half (L 32) (L 35) false y x).dont) rfl
    rw [show (half (L 32) (L 35) false y x).dont = y.dont from rfl] at hz
    have HK9 := Lib.hid hK
    clear hK hL
    go_wp2_with fail
    exact HK9.out _ _ (Below.refl _ _) ⟨HI.out.1, HI.out.2.1, HI.out.2.2.1, HI.out.2.2.2.1, HI.out.2.2.2.2⟩ ⟨rfl, rfl⟩
  · intro L a wy Q' hL hi H F hK
    try dsimp only at hi
    have h5 : a.tmps[5]? = some (.pointer (some ⟨eb, 0, none⟩)) := F 5 rfl
    have HI := Lib.hid hi
    clear H F hi hL
    go_wp2_with fail
    exact hK _ _ (Below.refl _ _) HI.out rfl
  · intro L a wy Q' hL hi H F hK
    try dsimp only at hi
    obtain ⟨_, h84, rfl⟩ := H 27 ⟨.data, by simp, rfl⟩ _ rfl
    replace h84 := h84 _ rfl
    have HI := Lib.hid hi
    clear H F hi hL
    have kq0 : wy.cell? ⟨eb, 6, none⟩ = some (.int .u32 x.dont) := HI.out.2.1.cell 6
    go_wp2_with fail
    exact hK _ _ (Below.refl _ _) HI.out rfl
  · intro L a wy Q' hL hi H F hK
    try dsimp only at hi
    obtain ⟨v83, h83, hv83⟩ := H 26 ⟨.data, by simp, rfl⟩ _ rfl
    replace h83 := h83 _ rfl
    have HV83 := Lib.hid hv83
    clear hv83
    obtain ⟨_, h85, rfl⟩ := H 28 ⟨.data, by simp, rfl⟩ _ rfl
    replace h85 := h85 _ rfl
    have HI := Lib.hid hi
    clear H F hi hL
    obtain ⟨hv1, hv2⟩ := HV83.out
    subst hv1
    have HK9 := Lib.hid hK
    have HV2 := Lib.hid hv2
    clear hK hv2
    go_wp2_with fail
    exact HK9.out _ _ (Below.refl _ _) HI.out ⟨rfl, HV2.out⟩
  · intro L a wy Q' hL hi H F hK
    try dsimp only at hi
    obtain ⟨_, h57, rfl⟩ := H 0 ⟨.data, by simp, rfl⟩ _ rfl
    replace h57 := h57 _ rfl
    obtain ⟨_, h58, rfl⟩ := H 1 ⟨.data, by simp, rfl⟩ _ rfl
    replace h58 := h58 _ rfl
    have HI := Lib.hid hi
    clear H F hi hL
    go_wp2_with fail
    exact hK _ _ (Below.refl _ _) HI.out rfl
  · intro L a wy Q' hL hi H F hK
    try dsimp only at hi
    obtain ⟨_, h87, rfl⟩ := H 30 ⟨.data, by simp, rfl⟩ _ rfl
    replace h87 := h87 _ rfl
    have HI := Lib.hid hi
    clear H F hi hL
    go_wp2_with fail
    exact hK _ _ (Below.refl _ _) HI.out rfl
  · intro L a wy Q' hL hi H F hK
    try dsimp only at hi
    obtain ⟨v70, h70, hv70⟩ := H 13 ⟨.data, by simp, rfl⟩ _ rfl
    replace h70 := h70 _ rfl
    have HV70 := Lib.hid hv70
    clear hv70
    obtain ⟨_, h88, rfl⟩ := H 31 ⟨.data, by simp, rfl⟩ _ rfl
    replace h88 := h88 _ rfl
    have HI := Lib.hid hi
    clear H F hi
    obtain ⟨hv1, hv2⟩ := HV70.out
    subst hv1
    have HV2 := Lib.hid hv2
    have HK9 := Lib.hid hK
    clear hK hv2 hL
    obtain ⟨cur, hbg, hw, hnc, hcm, hcs, hct⟩ := own_cur HI.out.1
    have HIW := Lib.hid hw
    have hfit : k * 7 + 4 + 1 ≤ cur.size := by have h1 := Nat.mul_le_mul_right 7 hnc; rw [hcs]; have := HKN.out; omega
    refine wpList_store_blk rfl 35 _ _ rfl g (k * 7 + 4) (.int .u32 (bits .or .u32 y.allow x.allow)) (by simp [Act.eval, *]) (by simp [Act.eval, *]) 37 _ hw (by simpa [Value.cells] using hfit) size35 rfl ?_
    intro w9 S9 W9
    have hset := ent_set HI.out.1 (set_self (y := (half (L 32) (L 35) false y x)) HKL.out) (f := 4) (vs := [.int .u32 (bits .or .u32 y.allow x.allow)]) (by simp) (z' := half true (L 35) false y x) rfl hw (by simpa [Value.cells] using W9)
    rw [List.set_set] at hset
    exact HK9.out undef w9 (show KeepAll _ _ _ _ _ _ _ _ from ⟨(fun _ _ _ _ h => h), (fun _ _ _ _ h => h), (fun _ _ _ _ h => h), (fun _ _ _ _ h => h), (fun _ _ _ _ h => h), (fun _ _ _ _ h => h), (fun _ _ _ _ h => h), (fun _ _ _ _ h => h), (fun _ _ _ _ h => h), (fun _ _ _ _ h => h), (fun _ _ v _ h => ⟨h.1, by simp [upd, h.2]⟩), (fun _ _ _ _ h => h), (fun _ _ _ _ h => h), (fun _ _ v _ h => ⟨h.1, by simp [upd, h.2]⟩), (fun _ _ _ _ h => h), (fun _ _ _ _ h => h), (fun _ _ _ _ h => h), (fun _ _ _ _ h => h), (fun _ _ v _ h => ⟨h.1, by simp [upd, h.2]⟩), (fun _ _ _ _ h => h), (fun _ _ _ _ h => h), (fun _ _ v _ h => ⟨h.1, by simp [upd, h.2]⟩), (fun _ _ _ _ h => h), (fun _ _ _ _ h => h), (fun _ _ _ _ h => h), (fun _ _ _ _ h => h), (fun _ _ v _ h => ⟨h.1, by simp [upd, h.2]⟩), (fun _ _ _ _ h => h), (fun _ _ _ _ h => h), (fun _ _ v _ h => ⟨h.1, by simp [upd, h.2]⟩), (fun _ _ _ _ h => h), (fun _ _ _ _ h => h), (fun h => absurd rfl h), (fun _ _ _ _ h => h), (fun _ _ _ _ h => h), (fun _ _ _ _ _ => trivial), (fun _ _ _ _ h => h), (fun _ _ _ _ h => h), trivial⟩) ⟨hset, S9.whole HI.out.2.1 HEG.out, HI.out.2.2.1.trans (S9.below hbg), (fun _ => HV2.out), HI.out.2.2.2.2⟩ trivial
  · intro L a wy Q' hL hi H F hK
    try dsimp only at hi
    obtain ⟨_, h59, rfl⟩ := H 2 ⟨.data, by simp, rfl⟩ _ rfl
    replace h59 := h59 _ rfl
    obtain ⟨_, h60, rfl⟩ := H 3 ⟨.data, by simp, rfl⟩ _ rfl
    replace h60 := h60 _ rfl
    have HI := Lib.hid hi
    clear H F hi hL
    go_wp2_with fail
    exact hK _ _ (Below.refl _ _) HI.out rfl
  · intro L a wy Q' hL hi H F hK
    try dsimp only at hi
    obtain ⟨_, h89, rfl⟩ := H 33 ⟨.data, by simp, rfl⟩ _ rfl
    replace h89 := h89 _ rfl
    have HI := Lib.hid hi
    clear H F hi hL
    go_wp2_with fail
    exact hK _ _ (Below.refl _ _) HI.out rfl
  · intro L a wy Q' hL hi H F hK
    try dsimp only at hi
    obtain ⟨v78, h78, hv78⟩ := H 21 ⟨.data, by simp, rfl⟩ _ rfl
    replace h78 := h78 _ rfl
    have HV78 := Lib.hid hv78
    clear hv78
    obtain ⟨_, h90, rfl⟩ := H 34 ⟨.data, by simp, rfl⟩ _ rfl
    replace h90 := h90 _ rfl
    have HI := Lib.hid hi
    clear H F hi
    obtain ⟨hv1, hv2⟩ := HV78.out
    subst hv1
    have HV2 := Lib.hid hv2
    have HK9 := Lib.hid hK
    clear hK hv2 hL
    obtain ⟨cur, hbg, hw, hnc, hcm, hcs, hct⟩ := own_cur HI.out.1
    have HIW := Lib.hid hw
    have hfit : k * 7 + 5 + 1 ≤ cur.size := by have h1 := Nat.mul_le_mul_right 7 hnc; rw [hcs]; have := HKN.out; omega
    refine wpList_store_blk rfl 35 _ _ rfl g (k * 7 + 5) (.int .u32 (bits .or .u32 y.audit x.audit)) (by simp [Act.eval, *]) (by simp [Act.eval, *]) 37 _ hw (by simpa [Value.cells] using hfit) size35 rfl ?_
    intro w9 S9 W9
    have hset := ent_set HI.out.1 (set_self (y := (half (L 32) (L 35) false y x)) HKL.out) (f := 5) (vs := [.int .u32 (bits .or .u32 y.audit x.audit)]) (by simp) (z' := half (L 32) true false y x) rfl hw (by simpa [Value.cells] using W9)
    rw [List.set_set] at hset
    exact HK9.out undef w9 (show KeepAll _ _ _ _ _ _ _ _ from ⟨(fun _ _ _ _ h => h), (fun _ _ _ _ h => h), (fun _ _ _ _ h => h), (fun _ _ _ _ h => h), (fun _ _ _ _ h => h), (fun _ _ _ _ h => h), (fun _ _ _ _ h => h), (fun _ _ _ _ h => h), (fun _ _ _ _ h => h), (fun _ _ _ _ h => h), (fun _ _ v _ h => ⟨h.1, by simp [upd, h.2]⟩), (fun _ _ _ _ h => h), (fun _ _ _ _ h => h), (fun _ _ v _ h => ⟨h.1, by simp [upd, h.2]⟩), (fun _ _ _ _ h => h), (fun _ _ _ _ h => h), (fun _ _ _ _ h => h), (fun _ _ _ _ h => h), (fun _ _ v _ h => ⟨h.1, by simp [upd, h.2]⟩), (fun _ _ _ _ h => h), (fun _ _ _ _ h => h), (fun _ _ v _ h => ⟨h.1, by simp [upd, h.2]⟩), (fun _ _ _ _ h => h), (fun _ _ _ _ h => h), (fun _ _ _ _ h => h), (fun _ _ _ _ h => h), (fun _ _ v _ h => ⟨h.1, by simp [upd, h.2]⟩), (fun _ _ _ _ h => h), (fun _ _ _ _ h => h), (fun _ _ v _ h => ⟨h.1, by simp [upd, h.2]⟩), (fun _ _ _ _ h => h), (fun _ _ _ _ h => h), (fun _ _ _ _ _ => trivial), (fun _ _ _ _ h => h), (fun _ _ _ _ h => h), (fun h => absurd rfl h), (fun _ _ _ _ h => h), (fun _ _ _ _ h => h), trivial⟩) ⟨hset, S9.whole HI.out.2.1 HEG.out, HI.out.2.2.1.trans (S9.below hbg), HI.out.2.2.2.1, (fun _ => HV2.out)⟩ trivial
  · intro L a wy Q' hL hi H F hK
    try dsimp only at hi
    obtain ⟨_, h61, rfl⟩ := H 4 ⟨.data, by simp, rfl⟩ _ rfl
    replace h61 := h61 _ rfl
    obtain ⟨_, h62, rfl⟩ := H 5 ⟨.data, by simp, rfl⟩ _ rfl
    replace h62 := h62 _ rfl
    have HI := Lib.hid hi
    clear H F hi hL
    go_wp2_with fail
    exact hK _ _ (Below.refl _ _) HI.out rfl
  · intro L a wy Q' hL hi H F hK
    try dsimp only at hi
    obtain ⟨_, h91, rfl⟩ := H 36 ⟨.data, by simp, rfl⟩ _ rfl
    replace h91 := h91 _ rfl
    have HI := Lib.hid hi
    clear H F hi hL
    go_wp2_with fail
    exact hK _ _ (Below.refl _ _) HI.out rfl
  · intro a wy L hl hi hL Q' hK
    try dsimp only at hi
    have HB := Lib.hid hi
    have HL := Lib.hid hL
    clear hi hL
    obtain ⟨_, rfl, _, rfl, _, rfl, _, rfl, _, rfl, _, rfl, _, rfl, _, rfl, _, rfl, _, rfl, u67, hu67, _, rfl, _, rfl, u70, hu70, _, rfl, _, rfl, _, rfl, _, rfl, u75, hu75, _, rfl, _, rfl, u78, hu78, _, rfl, _, rfl, _, rfl, _, rfl, u83, hu83, _, rfl, _, rfl, u86, hu86, _, rfl, _, rfl, un32, hun32, _, rfl, _, rfl, un35, hun35, _, rfl, _, rfl, rfl⟩ := hl
    have HU67 := Lib.hid hu67
    clear hu67
    have HU70 := Lib.hid hu70
    clear hu70
    have HU75 := Lib.hid hu75
    clear hu75
    have HU78 := Lib.hid hu78
    clear hu78
    have HU83 := Lib.hid hu83
    clear hu83
    have HU86 := Lib.hid hu86
    clear hu86
    have HUn32 := Lib.hid hun32
    clear hun32
    have HUn35 := Lib.hid hun35
    clear hun35
    simp only [List.setIfInBounds_toArray, List.set_cons_zero, List.set_cons_succ]
    obtain ⟨hv1, -⟩ := HU86.out
    subst hv1
    have h32 : L 32 = true := HL.out 32 (by decide)
    have h35 : L 35 = true := HL.out 35 (by decide)
    have HBO := HB.out.1
    rw [h32, h35] at HBO
    obtain ⟨cur, hbg, hw, hnc, hcm, hcs, hct⟩ := own_cur HBO
    have HIW := Lib.hid hw
    have HFIT := Lib.hid (show k * 7 + 6 + 1 ≤ cur.size by have h1 := Nat.mul_le_mul_right 7 hnc; rw [hcs]; have := HKN.out; omega)
    have HBOH := Lib.hid HBO
    clear hw hnc hcm hcs hct HBO
    go_wp2_with (refine wpList_store_blk rfl 35 _ _ rfl g (k * 7 + 6) (.int .u32 (bits .or .u32 y.dont x.dont)) rfl rfl 37 _ HIW.out (by simpa [Value.cells] using HFIT.out) size35 rfl ?_; intro w9 S9 W9; have HS9 := Lib.hid S9; have HW9 := Lib.hid W9; clear S9 W9)
    have hset := ent_set HBOH.out (set_self (y := (half true true false y x)) HKL.out) (f := 6) (vs := [.int .u32 (bits .or .u32 y.dont x.dont)]) (by simp) (z' := joinE y x) rfl HIW.out (by simpa [Value.cells] using HW9.out)
    rw [List.set_set] at hset
    exact HEND.out _ _ _ _ _ _ _ _ _ _ _ _ _ _ _ _ _ _ _ _ _ _ _ _ _ _ _ _ _ _ _ _ _ _ _ _ w9 ⟨hset, HB.out.2.2.1.trans (HS9.out.below hbg)⟩
set_option maxRecDepth 100000 in
set_option maxHeartbeats 4000000 in
theorem m13 (w : World) (g cap n k o1 c1 : Nat) (Post : World → World → Prop) (x0 x1 x2 x4 x5 x7 x8 x9 x10 x11 x12 x13 x14 x15 x16 x17 x18 x19 x20 x21 x22 x23 x24 x25 x26 x27 x28 x29 x30 x31 x32 x33 x34 x35 x36 x37 x38 x39 x40 x41 x42 x43 x44 x45 x46 x47 x48 x49 x50 x51 x52 x53 x54 x55 x56 x57 x58 x59 x60 x61 x62 x63 x64 x65 x66 x67 x68 x69 x70 x71 x72 x73 x74 x75 x76 x77 x78 x79 x80 x81 x82 x83 x84 x85 x86 x87 x88 x89 x90 x91 x92 x93 x94 x95 x96 x97 x98 x99 x100 x101 x102 x103 x104 x105 x106 x107 x108 x109 : Value) (hkb : k ≤ 1000000) (HQ1 : Hid (∀ W, (Instr.slice 22 (.slice (some ⟨g, 0, none⟩) (n + 1) cap) (some (.int .i64 ((k : Int) + 1))) none none).run Try.prog W = .ok (.slice (some ⟨g, o1, none⟩) (n - k) c1) W)) (HQ2 : Hid (∀ W, (Instr.slice 22 (.slice (some ⟨g, 0, none⟩) (n + 1) cap) (some (.int .i64 (k : Int))) none none).run Try.prog W = .ok (.slice (some ⟨g, k * 7, none⟩) (n + 1 - k) (cap - k)) W)) (HCP : Hid (∀ W, RowKit.Below w.heap.size w W → ∃ W', (∀ ty, (Builtin.copy_ #[22, 22] ty #[.slice (some ⟨g, o1, none⟩) (n - k) c1, .slice (some ⟨g, k * 7, none⟩) (n + 1 - k) (cap - k)]).run Try.prog W = .ok (goInt (n - k : Nat)) W') ∧ Post W W'))
    {Q' : Exit → Act → World → Prop} (hend : ∀ (v97 v98 v99 v100 v101 v102 v103 v104 : Value) (W w' : World), (RowKit.Below w.heap.size w W ∧ Post W w') → Q' .normal ⟨#[x0, x1, x2, .slice (some ⟨g, 0, none⟩) (n + 1) cap, x4, x5, .int .i64 (k : Nat), x7, x8, x9, x10, x11, x12, x13, x14, x15, x16, x17, x18, x19, x20, x21, x22, x23, x24, x25, x26, x27, x28, x29, x30, x31, x32, x33, x34, x35, x36, x37, x38, x39, x40, x41, x42, x43, x44, x45, x46, x47, x48, x49, x50, x51, x52, x53, x54, x55, x56, x57, x58, x59, x60, x61, x62, x63, x64, x65, x66, x67, x68, x69, x70, x71, x72, x73, x74, x75, x76, x77, x78, x79, x80, x81, x82, x83, x84, x85, x86, x87, x88, x89, x90, x91, x92, x93, x94, x95, x96, v97, v98, v99, v100, v101, v102, v103, v104, x105, x106, x107, x108, x109], []⟩ w') :
    Code.wp Try.prog (findRegion7 13 ((Try.f28.body).getD .skip)) Q' ⟨#[x0, x1, x2, .slice (some ⟨g, 0, none⟩) (n + 1) cap, x4, x5, .int .i64 (k : Nat), x7, x8, x9, x10, x11, x12, x13, x14, x15, x16, x17, x18, x19, x20, x21, x22, x23, x24, x25, x26, x27, x28, x29, x30, x31, x32, x33, x34, x35, x36, x37, x38, x39, x40, x41, x42, x43, x44, x45, x46, x47, x48, x49, x50, x51, x52, x53, x54, x55, x56, x57, x58, x59, x60, x61, x62, x63, x64, x65, x66, x67, x68, x69, x70, x71, x72, x73, x74, x75, x76, x77, x78, x79, x80, x81, x82, x83, x84, x85, x86, x87, x88, x89, x90, x91, x92, x93, x94, x95, x96, x97, x98, x99, x100, x101, x102, x103, x104, x105, x106, x107, x108, x109], []⟩ w := by
  have HEND := Lib.hid hend
  clear hend
  conv => arg 2; whnf
  conv => arg 4; dsimp only
  refine wp_region_goods [some 97, some 98, some 99, some 100, some 101, some 102, some 103] [isW (.slice (some ⟨g, 0, none⟩) (n + 1) cap), isW (.int .i64 (k : Nat)), isW (.int .i64 ((k : Int) + 1)), isW (.slice (some ⟨g, o1, none⟩) (n - k) c1), isW (.slice (some ⟨g, 0, none⟩) (n + 1) cap), isW (.int .i64 (k : Nat)), isW (.slice (some ⟨g, k * 7, none⟩) (n + 1 - k) (cap - k))] (fun _ w' => RowKit.Below w.heap.size w w') [] (by kernel_rfl) (by kernel_rfl) (by kernel_rfl) rfl (by decide) rfl rfl ((Below.refl _ _).drew) ⟨lastsW_is _, lastsW_is _, lastsW_is _, lastsW_is _, lastsW_is _, lastsW_is _, lastsW_is _, trivial⟩ ⟨?_, ?_, ?_, ?_, ?_, ?_, ?_, ?_⟩
  · intro L a wy Q' hL hi H F hK
    try dsimp only at hi
    have h3 : a.tmps[3]? = some (.slice (some ⟨g, 0, none⟩) (n + 1) cap) := F 3 rfl
    have HI := Lib.hid hi
    clear H F hi hL
    go_wp2_with fail
    exact hK _ _ (Below.refl _ _) HI.out rfl
  · intro L a wy Q' hL hi H F hK
    try dsimp only at hi
    have h6 : a.tmps[6]? = some (.int .i64 (k : Nat)) := F 6 rfl
    have HI := Lib.hid hi
    clear H F hi hL
    go_wp2_with fail
    exact hK _ _ (Below.refl _ _) HI.out rfl
  · intro L a wy Q' hL hi H F hK
    try dsimp only at hi
    obtain ⟨_, h98, rfl⟩ := H 1 ⟨.data, by simp, rfl⟩ _ rfl
    replace h98 := h98 _ rfl
    have HI := Lib.hid hi
    clear H F hi hL
    go_wp2_with fail
    exact hK _ _ (Below.refl _ _) HI.out rfl
  · intro L a wy Q' hL hi H F hK
    try dsimp only at hi
    obtain ⟨_, h97, rfl⟩ := H 0 ⟨.data, by simp, rfl⟩ _ rfl
    replace h97 := h97 _ rfl
    obtain ⟨_, h99, rfl⟩ := H 2 ⟨.data, by simp, rfl⟩ _ rfl
    replace h99 := h99 _ rfl
    have HI := Lib.hid hi
    clear H F hi hL
    have q := HQ1.out wy
    go_wp2_with fail
    exact hK _ _ (Below.refl _ _) HI.out rfl
  · intro L a wy Q' hL hi H F hK
    try dsimp only at hi
    have h3 : a.tmps[3]? = some (.slice (some ⟨g, 0, none⟩) (n + 1) cap) := F 3 rfl
    have HI := Lib.hid hi
    clear H F hi hL
    go_wp2_with fail
    exact hK _ _ (Below.refl _ _) HI.out rfl
  · intro L a wy Q' hL hi H F hK
    try dsimp only at hi
    have h6 : a.tmps[6]? = some (.int .i64 (k : Nat)) := F 6 rfl
    have HI := Lib.hid hi
    clear H F hi hL
    go_wp2_with fail
    exact hK _ _ (Below.refl _ _) HI.out rfl
  · intro L a wy Q' hL hi H F hK
    try dsimp only at hi
    obtain ⟨_, h101, rfl⟩ := H 4 ⟨.data, by simp, rfl⟩ _ rfl
    replace h101 := h101 _ rfl
    obtain ⟨_, h102, rfl⟩ := H 5 ⟨.data, by simp, rfl⟩ _ rfl
    replace h102 := h102 _ rfl
    have HI := Lib.hid hi
    clear H F hi hL
    have q := HQ2.out wy
    go_wp2_with fail
    exact hK _ _ (Below.refl _ _) HI.out rfl
  · intro a wy L hl hi hL Q' hK
    try dsimp only at hi
    have HB := Lib.hid hi
    clear hi hL
    obtain ⟨_, rfl, _, rfl, _, rfl, _, rfl, _, rfl, _, rfl, _, rfl, rfl⟩ := hl
    simp only [List.setIfInBounds_toArray, List.set_cons_zero, List.set_cons_succ]
    obtain ⟨W', hcp, hp⟩ := HCP.out wy HB.out
    have HP := Lib.hid hp
    clear hp
    go_wp2_with (at_builtin; refine wpList_copy_runI _ rfl _ _ 22 22 rfl _ _ rfl rfl (hcp _) ?_)
    exact HEND.out _ _ _ _ _ _ _ _ wy W' ⟨HB.out, HP.out⟩
set_option maxRecDepth 100000 in
set_option maxHeartbeats 4000000 in
theorem m14 (w : World) (bs eb g cap n k : Nat) (x y : AEntry) (O : List AEntry) (x0 x1 x2 x4 x7 x8 x9 x10 x11 x12 x13 x14 x15 x16 x17 x18 x19 x20 x21 x22 x23 x24 x25 x26 x27 x28 x29 x30 x31 x32 x33 x34 x35 x36 x37 x38 x39 x40 x41 x42 x43 x44 x45 x46 x47 x48 x49 x50 x51 x52 x53 x54 x55 x56 x57 x58 x59 x60 x61 x62 x63 x64 x65 x66 x67 x68 x69 x70 x71 x72 x73 x74 x75 x76 x77 x78 x79 x80 x81 x82 x83 x84 x85 x86 x87 x88 x89 x90 x91 x92 x93 x94 x95 x96 x97 x98 x99 x100 x101 x102 x103 x104 x105 x106 x107 x108 x109 : Value) (hkn : k < n) (HX : Hid (Whole w eb 37 #[.int .i64 x.src, .int .i64 x.tgt, .int .i64 x.cls, .int .i64 x.cond, .int .u32 x.allow, .int .u32 x.audit, .int .u32 x.dont])) (HO : Hid (w.ownsRow bs 37 7 (.slice (some ⟨g, 0, none⟩) n cap) n ((O).flatMap AEntry.cells))) (HKL : Hid (O[k]? = some y)) (HKN : Hid (k < n))
    {Q' : Exit → Act → World → Prop} (hend : ∀ (v105 v106 v107 v108 : Value) (w' : World), (w'.ownsRow bs 37 7 (.slice (some ⟨g, 0, none⟩) n cap) n ((O.set k x).flatMap AEntry.cells) ∧ RowKit.Below bs w w') → Q' .normal ⟨#[x0, x1, x2, .slice (some ⟨g, 0, none⟩) n cap, x4, .pointer (some ⟨eb, 0, none⟩), .int .i64 (k : Nat), x7, x8, x9, x10, x11, x12, x13, x14, x15, x16, x17, x18, x19, x20, x21, x22, x23, x24, x25, x26, x27, x28, x29, x30, x31, x32, x33, x34, x35, x36, x37, x38, x39, x40, x41, x42, x43, x44, x45, x46, x47, x48, x49, x50, x51, x52, x53, x54, x55, x56, x57, x58, x59, x60, x61, x62, x63, x64, x65, x66, x67, x68, x69, x70, x71, x72, x73, x74, x75, x76, x77, x78, x79, x80, x81, x82, x83, x84, x85, x86, x87, x88, x89, x90, x91, x92, x93, x94, x95, x96, x97, x98, x99, x100, x101, x102, x103, x104, v105, v106, v107, v108, x109], []⟩ w') :
    Code.wp Try.prog (findRegion7 14 ((Try.f28.body).getD .skip)) Q' ⟨#[x0, x1, x2, .slice (some ⟨g, 0, none⟩) n cap, x4, .pointer (some ⟨eb, 0, none⟩), .int .i64 (k : Nat), x7, x8, x9, x10, x11, x12, x13, x14, x15, x16, x17, x18, x19, x20, x21, x22, x23, x24, x25, x26, x27, x28, x29, x30, x31, x32, x33, x34, x35, x36, x37, x38, x39, x40, x41, x42, x43, x44, x45, x46, x47, x48, x49, x50, x51, x52, x53, x54, x55, x56, x57, x58, x59, x60, x61, x62, x63, x64, x65, x66, x67, x68, x69, x70, x71, x72, x73, x74, x75, x76, x77, x78, x79, x80, x81, x82, x83, x84, x85, x86, x87, x88, x89, x90, x91, x92, x93, x94, x95, x96, x97, x98, x99, x100, x101, x102, x103, x104, x105, x106, x107, x108, x109], []⟩ w := by
  have HEND := Lib.hid hend
  clear hend
  conv => arg 2; whnf
  conv => arg 4; dsimp only
  have kx0 : w.cell? ⟨eb, 0, none⟩ = some (.int .i64 x.src) := HX.out.cell 0
  have kx1 : w.cell? ⟨eb, 1, none⟩ = some (.int .i64 x.tgt) := HX.out.cell 1
  have kx2 : w.cell? ⟨eb, 2, none⟩ = some (.int .i64 x.cls) := HX.out.cell 2
  have kx3 : w.cell? ⟨eb, 3, none⟩ = some (.int .i64 x.cond) := HX.out.cell 3
  have kx4 : w.cell? ⟨eb, 4, none⟩ = some (.int .u32 x.allow) := HX.out.cell 4
  have kx5 : w.cell? ⟨eb, 5, none⟩ = some (.int .u32 x.audit) := HX.out.cell 5
  have kx6 : w.cell? ⟨eb, 6, none⟩ = some (.int .u32 x.dont) := HX.out.cell 6
  obtain ⟨cur, hbg, hw, hnc, hcm, hcs, hct⟩ := own_cur HO.out
  have HIW := Lib.hid hw
  have HFIT := Lib.hid (show k * 7 + 7 ≤ cur.size by have h1 := Nat.mul_le_mul_right 7 hnc; rw [hcs]; have := HKN.out; omega)
  clear hw hnc hcm hcs hct
  go_wp2_with (refine wpList_store_blk rfl 37 _ _ rfl g (k * 7) (.agg #[.int .i64 x.src, .int .i64 x.tgt, .int .i64 x.cls, .int .i64 x.cond, .int .u32 x.allow, .int .u32 x.audit, .int .u32 x.dont]) rfl rfl 37 _ HIW.out (by simpa [Value.cells] using HFIT.out) size37 rfl ?_; intro w9 S9 W9; have HS9 := Lib.hid S9; have HW9 := Lib.hid W9; clear S9 W9)
  have hset := ent_set HO.out HKL.out (f := 0) (vs := x.cells) (show 0 + 7 ≤ 7 by decide) (z' := x) rfl HIW.out HW9.out
  exact HEND.out _ _ _ _ w9 ⟨hset, HS9.out.below hbg⟩
end Go.Proofs.Ytlkkdpoliafjbaa
