import Derived.Test.YtlkkdpoliafjbaaP5
/-
  Tables: entries; Entries, Visible, Len, Copy.
-/
namespace Go.Proofs.Ytlkkdpoliafjbaa
open Go Go.WideMaps Go.RowKit

theorem own_alloc {w : World} {b : Nat} {e : TypeId} {k n : Nat} {v : Value} {xs : List Value} (h : w.ownsRow b e k v n xs) (o : Obj) : (w.alloc o).ownsRow b e k v n xs := own_keep ((Below.refl _ w).alloc (Nat.le_refl _) o) h (Nat.le_refl _)
theorem row_new (w : World) (cs : List Value) (t : TypeId) : ∀ j u, cs[j]? = some u → (w.alloc (.cells cs.toArray t)).cell? ((⟨w.heap.size, 0, none⟩ : Addr).add j) = some u := fun j u hj => by
  rw [Addr.add_mid, (Whole.new w t cs.toArray).cell, Nat.zero_add]
  simpa using hj
set_option maxRecDepth 100000 in
set_option maxHeartbeats 4000000 in
theorem ent5 (w : World) (sb kb mb : Nat) (kv : Value) (k : Key4) (u : AVec) (x1 x2 x3 x4 x6 x7 x8 x9 x10 x11 x12 x13 x14 x15 x16 x17 x18 x19 x20 x21 x22 x23 x24 x25 x26 x27 x28 x29 x30 x31 x32 x33 x34 x35 x36 x37 x38 x39 x40 x41 : Value) (HS : Hid (Whole w sb 73 #[.map (some mb), kv])) (HK : Hid (Whole w kb 60 #[.int .i64 k.src, .int .i64 k.tgt, .int .i64 k.cls, .int .i64 k.cond])) (HL : Hid (∀ W, RowKit.Below w.heap.size w W → (Instr.lookup 70 (.map (some mb)) (.agg #[.int .i64 k.src, .int .i64 k.tgt, .int .i64 k.cls, .int .i64 k.cond]) false).run Try.prog W = .ok (.agg #[.int .u32 u.allow, .int .u32 u.audit, .int .u32 u.dont]) W))
    {Q' : Exit → Act → World → Prop} (hend : ∀ (v16 v17 v18 v19 v20 v21 : Value) (g : Nat) (w' : World), (Whole w' g 62 #[.int .u32 u.allow, .int .u32 u.audit, .int .u32 u.dont] ∧ w.heap.size ≤ g ∧ RowKit.Below w.heap.size w w') → Q' .normal ⟨#[.pointer (some ⟨sb, 0, none⟩), x1, x2, x3, x4, .pointer (some ⟨kb, 0, none⟩), .pointer (some ⟨g, 0, none⟩), x7, x8, x9, x10, x11, x12, x13, x14, x15, v16, v17, v18, v19, v20, v21, x22, x23, x24, x25, x26, x27, x28, x29, x30, x31, x32, x33, x34, x35, x36, x37, x38, x39, x40, x41], []⟩ w') :
    Code.wp Try.prog (findRegion7 5 ((Try.f36.body).getD .skip)) Q' ⟨#[.pointer (some ⟨sb, 0, none⟩), x1, x2, x3, x4, .pointer (some ⟨kb, 0, none⟩), x6, x7, x8, x9, x10, x11, x12, x13, x14, x15, x16, x17, x18, x19, x20, x21, x22, x23, x24, x25, x26, x27, x28, x29, x30, x31, x32, x33, x34, x35, x36, x37, x38, x39, x40, x41], []⟩ w := by
  have HEND := Lib.hid hend
  clear hend
  conv => arg 2; whnf
  conv => arg 4; dsimp only
  refine wp_region_goods [some 16, some 17, some 18, some 19, some 20, some 21, some 6] [isW (.pointer (some ⟨sb, 0, none⟩)), isW (.pointer (some ⟨sb, 0, none⟩)), isW (.pointer (some ⟨sb, 0, none⟩)), isW (.map (some mb)), isW (.agg #[.int .i64 k.src, .int .i64 k.tgt, .int .i64 k.cls, .int .i64 k.cond]), isW (.agg #[.int .u32 u.allow, .int .u32 u.audit, .int .u32 u.dont]), (fun _ v w' => ∃ g, v = .pointer (some ⟨g, 0, none⟩) ∧ w.heap.size ≤ g ∧ Whole w' g 62 #[.int .u32 0, .int .u32 0, .int .u32 0])] (fun _ w' => RowKit.Below w.heap.size w w') [] (by kernel_rfl) (by kernel_rfl) (by kernel_rfl) rfl (by decide) rfl rfl ((Below.refl _ _).drew) ⟨lastsW_is _, lastsW_is _, lastsW_is _, lastsW_is _, lastsW_is _, lastsW_is _, (fun L i v w1 w2 _ h hb => let ⟨g, e, hg, hw⟩ := h; ⟨g, e, hg, Whole.under hb hw hw.lt⟩), trivial⟩ ⟨?_, ?_, ?_, ?_, ?_, ?_, ?_, ?_⟩
  · intro L a wy Q' hL hi H F hK
    try dsimp only at hi
    have h0 : a.tmps[0]? = some (.pointer (some ⟨sb, 0, none⟩)) := F 0 rfl
    have HI := Lib.hid hi
    clear H F hi hL
    go_wp2_with fail
    exact hK _ _ (Below.refl _ _) HI.out rfl
  · intro L a wy Q' hL hi H F hK
    try dsimp only at hi
    obtain ⟨_, h16, rfl⟩ := H 0 ⟨.data, by simp, rfl⟩ _ rfl
    replace h16 := h16 _ rfl
    have HI := Lib.hid hi
    clear H F hi hL
    go_wp2_with fail
    exact hK _ _ (Below.refl _ _) HI.out rfl
  · intro L a wy Q' hL hi H F hK
    try dsimp only at hi
    obtain ⟨_, h17, rfl⟩ := H 1 ⟨.data, by simp, rfl⟩ _ rfl
    replace h17 := h17 _ rfl
    have HI := Lib.hid hi
    clear H F hi hL
    go_wp2_with fail
    exact hK _ _ (Below.refl _ _) HI.out rfl
  · intro L a wy Q' hL hi H F hK
    try dsimp only at hi
    obtain ⟨_, h18, rfl⟩ := H 2 ⟨.data, by simp, rfl⟩ _ rfl
    replace h18 := h18 _ rfl
    have HI := Lib.hid hi
    clear H F hi hL
    have kq0 : wy.cell? ⟨sb, 0, none⟩ = some (.map (some mb)) := (Whole.under HI.out HS.out (Whole.lt HS.out)).cell 0
    go_wp2_with fail
    exact hK _ _ (Below.refl _ _) HI.out rfl
  · intro L a wy Q' hL hi H F hK
    try dsimp only at hi
    have h5 : a.tmps[5]? = some (.pointer (some ⟨kb, 0, none⟩)) := F 5 rfl
    have HI := Lib.hid hi
    clear H F hi hL
    have kq0 : wy.cell? ⟨kb, 0, none⟩ = some (.int .i64 k.src) := (Whole.under HI.out HK.out (Whole.lt HK.out)).cell 0
    have kq1 : wy.cell? ⟨kb, 1, none⟩ = some (.int .i64 k.tgt) := (Whole.under HI.out HK.out (Whole.lt HK.out)).cell 1
    have kq2 : wy.cell? ⟨kb, 2, none⟩ = some (.int .i64 k.cls) := (Whole.under HI.out HK.out (Whole.lt HK.out)).cell 2
    have kq3 : wy.cell? ⟨kb, 3, none⟩ = some (.int .i64 k.cond) := (Whole.under HI.out HK.out (Whole.lt HK.out)).cell 3
    go_wp2_with fail
    exact hK _ _ (Below.refl _ _) HI.out rfl
  · intro L a wy Q' hL hi H F hK
    try dsimp only at hi
    obtain ⟨_, h19, rfl⟩ := H 3 ⟨.data, by simp, rfl⟩ _ rfl
    replace h19 := h19 _ rfl
    obtain ⟨_, h20, rfl⟩ := H 4 ⟨.data, by simp, rfl⟩ _ rfl
    replace h20 := h20 _ rfl
    have HI := Lib.hid hi
    clear H F hi hL
    have q := HL.out wy HI.out
    go_wp2_with fail
    exact hK _ _ (Below.refl _ _) HI.out rfl
  · intro L a wy Q' hL hi H F hK
    try dsimp only at hi
    have HI := Lib.hid hi
    clear H F hi hL
    have HK9 := Lib.hid hK
    clear hK
    go_wp2_with fail
    exact HK9.out _ _ ((Below.refl _ _).alloc (Nat.le_refl _) _) (HI.out.alloc HI.out.size _) ⟨wy.heap.size, rfl, HI.out.size, Whole.new wy 62 _⟩
  · intro a wy L hl hi hL Q' hK
    try dsimp only at hi
    have HB := Lib.hid hi
    clear hi hL
    obtain ⟨_, rfl, _, rfl, _, rfl, _, rfl, _, rfl, _, rfl, u6, hu6, rfl⟩ := hl
    have HU6 := Lib.hid hu6
    clear hu6
    simp only [List.setIfInBounds_toArray, List.set_cons_zero, List.set_cons_succ]
    obtain ⟨g, rfl, hg, hw⟩ := HU6.out
    have HG := Lib.hid hg
    have HW := Lib.hid hw
    clear hg hw
    go_wp2_with (refine wpList_store_blk rfl 62 _ _ rfl g 0 (.agg #[.int .u32 u.allow, .int .u32 u.audit, .int .u32 u.dont]) rfl rfl 62 _ HW.out (by simp [Value.cells]) size62 rfl ?_; intro w9 S9 W9; rw [splice_all _ _ (by rfl)] at W9; have HS9 := Lib.hid S9; have HW9 := Lib.hid (show Whole w9 g 62 #[.int .u32 u.allow, .int .u32 u.audit, .int .u32 u.dont] from W9); clear S9 W9)
    exact HEND.out _ _ _ _ _ _ g w9 ⟨HW9.out, HG.out, HB.out.trans (HS9.out.below HG.out)⟩
set_option maxRecDepth 100000 in
set_option maxHeartbeats 4000000 in
theorem entries_any (w : World) (base sb : Nat) (L : List AEntry) (h : StoreAt w base sb L) (hlen : L.length ≤ 100000) :
    Calls Try.prog 36 #[.pointer (some ⟨sb, 0, none⟩)] w fun e w' => ∃ v, e = .returned v ∧ w'.ownsRow w.heap.size 37 7 v L.length (L.flatMap AEntry.cells) ∧ RowKit.Below w.heap.size w w' := by
  obtain ⟨i0, z0, hi0, hz0, hz1, hz2, hzs⟩ := infoOf info37
  obtain ⟨mb, kv, hS, hM, hO, -, -⟩ := h.ex
  obtain ⟨n, hn⟩ : ∃ n, n = L.length := ⟨_, rfl⟩
  have hsl := SliceAt.of_own hO (flat_one _)
  rw [← hn] at hsl hlen
  obtain ⟨ka, kc, rfl, hkc, hkm, hcell⟩ := hsl.form (by decide)
  have HN := Lib.hid hn
  have HCL := Lib.hid hcell
  have HS := Lib.hid hS
  have HM := Lib.hid hM
  have HORD := Lib.hid h.ord
  have HOK := Lib.hid h.ok
  have HLEN := Lib.hid hlen
  have k1 : w.cell? ⟨sb, 1, none⟩ = some (.slice ka n kc) := hS.cell 1
  clear h hsl hcell hn hS hM hO
  go_enter Try.func36, Try.ntmps36
  go_wp2_with fail
  clear k1
  go_loopw [12, 3] (fun i u wr => ∃ m : Nat, m ≤ n ∧ i = .int .i64 m ∧ wr.ownsRow w.heap.size 37 7 u m ((L.take m).flatMap AEntry.cells) ∧ RowKit.Below w.heap.size w wr) (fun i _ _ => n - (intOf i).toNat)
  case atStart => exact ⟨0, Nat.zero_le _, rfl, by simpa using World.ownsRow_nil _ _ _ _, Below.refl _ _⟩
  case round =>
    obtain ⟨m, hm, rfl, hOr, hBr⟩ := hrel
    obtain ⟨oa, oc, rfl⟩ := own_shape hOr
    have HOr := Lib.hid hOr
    have HBr := Lib.hid hBr
    clear hOr hBr
    by_cases hlt : m < n
    · obtain ⟨y, hy⟩ : ∃ y, L[m]? = some y := ⟨_, List.getElem?_eq_getElem (by rw [← HN.out]; exact hlt)⟩
      obtain ⟨b, off, rfl, hcl⟩ := HCL.out m hlt
      have hk0 : wr.cell? ⟨b, off + m * 4, none⟩ = some (.int .i64 y.src) := cell_later HBr.out (flat_cell hcl (by rw [List.getElem?_map, hy]; rfl) 0 _ rfl)
      have hk1 : wr.cell? ⟨b, off + m * 4 + 1, none⟩ = some (.int .i64 y.tgt) := cell_later HBr.out (flat_cell hcl (by rw [List.getElem?_map, hy]; rfl) 1 _ rfl)
      have hk2 : wr.cell? ⟨b, off + m * 4 + 2, none⟩ = some (.int .i64 y.cls) := cell_later HBr.out (flat_cell hcl (by rw [List.getElem?_map, hy]; rfl) 2 _ rfl)
      have hk3 : wr.cell? ⟨b, off + m * 4 + 3, none⟩ = some (.int .i64 y.cond) := cell_later HBr.out (flat_cell hcl (by rw [List.getElem?_map, hy]; rfl) 3 _ rfl)
      have HY := Lib.hid hy
      have HYO := Lib.hid (HOK.out y (at_mem hy))
      have HTK := Lib.hid (show L.take (m + 1) = L.take m ++ [y] from take_snoc hy)
      have HTL := Lib.hid (show m ≤ 100000 by omega)
      clear hcl hy
      go_upto_region 5 with (refine wpList_store_blk rfl 60 _ _ rfl wr.heap.size 0 (.agg #[.int .i64 y.src, .int .i64 y.tgt, .int .i64 y.cls, .int .i64 y.cond]) rfl rfl 60 _ (Whole.new wr 60 _) (by simp [Value.cells]) size60 rfl ?_; intro w3 S3 W3; rw [splice_all _ _ (by rfl)] at W3; have HS3 := Lib.hid S3; have HW3 := Lib.hid (show Whole w3 wr.heap.size 60 #[.int .i64 y.src, .int .i64 y.tgt, .int .i64 y.cls, .int .i64 y.cond] from W3); clear S3 W3)
      clear hk0 hk1 hk2 hk3
      have HB3 := Lib.hid (show RowKit.Below wr.heap.size wr w3 from ((Below.refl _ wr).alloc (Nat.le_refl _) _).trans (HS3.out.below (Nat.le_refl _)))
      have HBw3 := Lib.hid (HBr.out.trans (HB3.out.mono HBr.out.size))
      have HO3 := Lib.hid (own_keep HB3.out HOr.out (Nat.le_refl _))
      refine ent5 w3 sb wr.heap.size mb (.slice (some ⟨b, off, none⟩) n kc) y.key y.vecs _ _ _ _ _ _ _ _ _ _ _ _ _ _ _ _ _ _ _ _ _ _ _ _ _ _ _ _ _ _ _ _ _ _ _ _ _ _ _ _ (Lib.hid (Whole.under HBw3.out HS.out HS.out.lt)) HW3 (Lib.hid fun W hW => by
        have h := store_look ((HM.out.kept (HBw3.out.block _ HM.out.lt)).kept (hW.block _ (Nat.lt_of_lt_of_le HM.out.lt HBw3.out.size))) HORD.out HYO.out.1
        rwa [lookV_at HORD.out HY.out rfl] at h) ?_
      intro v16 v17 v18 v19 v20 v21 g w5 hf
      have HW5 := Lib.hid hf.1
      have HG5 := Lib.hid hf.2.1
      have HB5 := Lib.hid hf.2.2
      have HO5 := Lib.hid (own_keep hf.2.2 HO3.out (Nat.le_refl _))
      have HBw5 := Lib.hid (HBw3.out.trans (hf.2.2.mono HBw3.out.size))
      have HK5 := Lib.hid (Whole.under hf.2.2 HW3.out HW3.out.lt)
      clear hf
      have kq0 : w5.cell? ⟨wr.heap.size, 0, none⟩ = some (.int .i64 y.src) := HK5.out.cell 0
      have kq1 : w5.cell? ⟨wr.heap.size, 1, none⟩ = some (.int .i64 y.tgt) := HK5.out.cell 1
      have kq2 : w5.cell? ⟨wr.heap.size, 2, none⟩ = some (.int .i64 y.cls) := HK5.out.cell 2
      have kq3 : w5.cell? ⟨wr.heap.size, 3, none⟩ = some (.int .i64 y.cond) := HK5.out.cell 3
      have gq0 : w5.cell? ⟨g, 0, none⟩ = some (.int .u32 y.allow) := HW5.out.cell 0
      have gq1 : w5.cell? ⟨g, 1, none⟩ = some (.int .u32 y.audit) := HW5.out.cell 1
      have gq2 : w5.cell? ⟨g, 2, none⟩ = some (.int .u32 y.dont) := HW5.out.cell 2
      go_wp2_with (at_builtin; go_must (refine wpList_append_own _ rfl _ _ 22 rfl w.heap.size 37 i0 z0 7 48 Try.underlying22 hi0 hz0 hz1 hz2 hzs (by decide) _ _ _ rfl (own_alloc HO5.out _) ⟨w5.heap.size, 0, none⟩ 1 1 [.int .i64 y.src, .int .i64 y.tgt, .int .i64 y.cls, .int .i64 y.cond, .int .u32 y.allow, .int .u32 y.audit, .int .u32 y.dont] rfl rfl (row_new _ _ _) ?c2 ?c3 ?c4 ?c5 ?_))
      case c2 => simp [Value.oneCell']
      case c3 => have := HTL.out; unfold maxLen; omega
      case c4 => have := HTL.out; omega
      case c5 => have := HBw5.out.size; simp; omega
      intro u9 w9 ho9 hg9 hn9
      have HB9 := Lib.hid ((HBw5.out.alloc HBw5.out.size _).grown hg9 (by have := HBw5.out.size; simp; omega) (fun q hq => (HO5.out.lt q hq).1))
      have HO9 := Lib.hid ho9
      clear hg9 hn9 ho9
      clear kq0 kq1 kq2 kq3 gq0 gq1 gq2
      go_wp2_with fail
      go_roundw
      case rel => exact ⟨m + 1, by omega, by go_num, by rw [HTK.out]; simpa [AEntry.cells] using HO9.out, HB9.out⟩
      case measure => simp [intOf]; omega
    · obtain rfl : m = n := by omega
      have hfull : L.take m = L := List.take_of_length_le (by rw [HN.out]; exact Nat.le_refl _)
      rw [hfull] at HOr
      clear hfull
      go_wp2
      go_ret
      rw [← HN.out]
      exact ⟨_, ret_val rfl, HOr.out, HBr.out⟩
theorem tentries_any (w : World) (base tb : Nat) (L S : List AEntry) (vals : List Bool) (h : TabAt w base tb L S vals) (hlen : L.length ≤ 100000) :
    Calls Try.prog 16 #[.pointer (some ⟨tb, 0, none⟩)] w fun e w' => ∃ v, e = .returned v ∧ w'.ownsRow w.heap.size 37 7 v L.length (L.flatMap AEntry.cells) ∧ RowKit.Below w.heap.size w w' := by
  obtain ⟨sa, ss, vv, hT, hA, hB, hV⟩ := h.ex
  have HMD := Lib.hid (made_any w tb sa _ _ hT)
  have t0 : w.cell? ⟨tb, 0, none⟩ = some (.pointer (some ⟨sa, 0, none⟩)) := hT.cell 0
  have HE := Lib.hid (entries_any w base _ L hA hlen)
  clear h hT hA hB hV hlen
  go_enter Try.func16, Try.ntmps16
  go_wp2_with (first | (go_at_call 34; go_must (refine HMD.out.mono ?_; rintro e w1 ⟨rfl, rfl⟩)) | (go_at_call 36; go_must (refine HE.out.mono ?_; rintro e w1 ⟨v, rfl, ho, hb⟩; have HO := Lib.hid ho; have HB := Lib.hid hb; clear ho hb)))
  go_ret
  exact ⟨v, ret_val rfl, HO.out, HB.out⟩
theorem tvisible_any (w : World) (base tb : Nat) (L S : List AEntry) (vals : List Bool) (h : TabAt w base tb L S vals) (hlen : S.length ≤ 100000) :
    Calls Try.prog 17 #[.pointer (some ⟨tb, 0, none⟩)] w fun e w' => ∃ v, e = .returned v ∧ w'.ownsRow w.heap.size 37 7 v S.length (S.flatMap AEntry.cells) ∧ RowKit.Below w.heap.size w w' := by
  obtain ⟨sa, ss, vv, hT, hA, hB, hV⟩ := h.ex
  have HMD := Lib.hid (made_any w tb sa _ _ hT)
  have t0 : w.cell? ⟨tb, 1, none⟩ = some (.pointer (some ⟨ss, 0, none⟩)) := hT.cell 1
  have HE := Lib.hid (entries_any w base _ S hB hlen)
  clear h hT hA hB hV hlen
  go_enter Try.func17, Try.ntmps17
  go_wp2_with (first | (go_at_call 34; go_must (refine HMD.out.mono ?_; rintro e w1 ⟨rfl, rfl⟩)) | (go_at_call 36; go_must (refine HE.out.mono ?_; rintro e w1 ⟨v, rfl, ho, hb⟩; have HO := Lib.hid ho; have HB := Lib.hid hb; clear ho hb)))
  go_ret
  exact ⟨v, ret_val rfl, HO.out, HB.out⟩
theorem len_any (w : World) (base tb : Nat) (L S : List AEntry) (vals : List Bool) (h : TabAt w base tb L S vals) :
    Calls Try.prog 20 #[.pointer (some ⟨tb, 0, none⟩)] w fun e w' => e = .returned (.int .i64 L.length) ∧ w = w' := by
  obtain ⟨sa, ss, vv, hT, hA, hB, hV⟩ := h.ex
  obtain ⟨mb, kv, hS, hM, hO, -, -⟩ := hA.ex
  obtain ⟨ka, kc, rfl⟩ := own_shape hO
  have HMD := Lib.hid (made_any w tb sa _ _ hT)
  have t0 : w.cell? ⟨tb, 0, none⟩ = some (.pointer (some ⟨sa, 0, none⟩)) := hT.cell 0
  have k1 : w.cell? ⟨sa, 1, none⟩ = some (.slice ka L.length kc) := hS.cell 1
  obtain ⟨n, hn⟩ : ∃ n, n = L.length := ⟨_, rfl⟩
  rw [← hn] at k1 ⊢
  clear h hT hA hB hV hS hM hO hn
  go_enter Try.func20, Try.ntmps20
  go_wp2_with (go_at_call 34; go_must (refine HMD.out.mono ?_; rintro e w1 ⟨rfl, rfl⟩))
  go_ret
  exact ⟨ret_val rfl, rfl⟩
set_option maxRecDepth 100000 in
set_option maxHeartbeats 4000000 in
theorem copy_any (w : World) (base tb : Nat) (L S : List AEntry) (vals : List Bool) (h : TabAt w base tb L S vals) (hlen : L.length ≤ 100000) (hbig : vals.length ≤ 1000000) (hj : joinL L = L) :
    Calls Try.prog 21 #[.pointer (some ⟨tb, 0, none⟩)] w fun e w' => ∃ cb, e = .returned (.pointer (some ⟨cb, 0, none⟩)) ∧ TabAt w' w.heap.size cb L (seenL L vals) vals ∧ RowKit.Below w.heap.size w w' := by
  obtain ⟨sa, ss, vv, hT, hA, hB, hV⟩ := h.ex
  obtain ⟨va, vc, rfl⟩ := own_shape hV
  have HMD := Lib.hid (made_any w tb sa _ _ hT)
  have HE := Lib.hid (tentries_any w base tb L S vals h hlen)
  have HT := Lib.hid hT
  have HOK := Lib.hid hA.ok
  have HLEN := Lib.hid hlen
  have HBIG := Lib.hid hbig
  have HV := Lib.hid hV
  have HJ := Lib.hid hj
  clear h hT hA hB hV hlen hbig hj
  go_enter Try.func21, Try.ntmps21
  go_upto_region 3 with (go_at_call 34; go_must (refine HMD.out.mono ?_; rintro e w1 ⟨rfl, rfl⟩))
  go_upto_region 4 with (first | (go_at_call 16; go_must (refine HE.out.mono ?_; rintro e w1 ⟨v, rfl, ho, hb⟩; have HO1 := Lib.hid ho; have HB1 := Lib.hid hb; have HNW := Lib.hid (new_any w1 v L (SliceAt.of_own ho (ecells_one _)) HOK.out HLEN.out); clear ho hb)) | (go_at_call 10; go_must (refine HNW.out.mono ?_; rintro e w2 ⟨cb, rfl, ht, hb⟩; rw [HJ.out] at ht; have HT2 := Lib.hid ht; have HB2 := Lib.hid hb; clear ht hb)))
  have HBw2 := Lib.hid (HB1.out.trans (HB2.out.mono HB1.out.size))
  have HTw := Lib.hid (Whole.under HBw2.out HT.out HT.out.lt)
  have t2 : w2.cell? ⟨tb, 2, none⟩ = some (.slice va vals.length vc) := HTw.out.cell 2
  have HAC := Lib.hid (activate_any w2 _ cb (.slice va vals.length vc) L _ [] vals HT2.out (SliceAt.of_own (own_keep HBw2.out HV.out (Nat.le_refl _)) (bools_one _)) HLEN.out HBIG.out)
  go_wp2_with (go_at_call 13; go_must (refine HAC.out.mono ?_; rintro e w3 ⟨rfl, ht, hg⟩; have HT3 := Lib.hid ht; have HG3 := Lib.hid hg; clear ht hg))
  go_ret
  exact ⟨cb, ret_val rfl, HT3.out.low HB1.out.size, HBw2.out.grown HG3.out HBw2.out.size (fun q hq => by cases hq; exact Nat.le_trans HB1.out.size HT2.out.lo)⟩
end Go.Proofs.Ytlkkdpoliafjbaa
