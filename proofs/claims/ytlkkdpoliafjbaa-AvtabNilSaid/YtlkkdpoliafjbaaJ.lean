import Derived.Test.YtlkkdpoliafjbaaI
/-
  store.put: its regions.
-/
namespace Go.Proofs.Ytlkkdpoliafjbaa
open Go Go.WideMaps Go.RowKit

theorem upd_was {L : Nat → Bool} {i j : Nat} (h : upd L i j = false) : L j = false := by
  unfold upd at h
  cases hx : L j with
  | false => rfl
  | true => rw [hx] at h; simp at h
theorem own_shape {w : World} {b : Nat} {t : TypeId} {k n : Nat} {v : Value} {xs : List Value} (h : w.ownsRow b t k v n xs) : ∃ a c, v = .slice a n c := by
  rcases h.2 with ⟨rfl, rfl⟩ | ⟨g, cap, cur, rfl, _⟩
  · exact ⟨_, _, rfl⟩
  · exact ⟨_, _, rfl⟩
theorem stays {w w' : World} {o : Option Nat} {g : Nat} {t : TypeId} {cs : Array Value} (h : ∀ b, b < w.heap.size → o ≠ some b → w'.heap[b]? = w.heap[b]?) (hw : Whole w g t cs) (hn : o ≠ some g) : Whole w' g t cs := (h g hw.lt hn).trans hw
set_option maxRecDepth 100000 in
set_option maxHeartbeats 4000000 in
theorem put1 (w : World) (sb kb mb : Nat) (kv : Value) (k : Key4) (u : AVec) (ok : Bool) (x1 x2 x3 x5 x6 x7 x8 x9 x10 x11 x12 x13 x14 x15 x16 x17 x18 x19 x20 x21 x22 x23 x24 x25 x26 x27 x28 x29 x30 x31 x32 x33 x34 x35 x36 x37 x38 x39 x40 x41 x42 x43 x44 x45 x46 : Value) (HS : Hid (Whole w sb 73 #[.map (some mb), kv])) (HK : Hid (Whole w kb 60 #[.int .i64 k.src, .int .i64 k.tgt, .int .i64 k.cls, .int .i64 k.cond])) (HL : Hid (∀ W, RowKit.Below w.heap.size w W → (Instr.lookup 70 (.map (some mb)) (.agg #[.int .i64 k.src, .int .i64 k.tgt, .int .i64 k.cls, .int .i64 k.cond]) true).run Try.prog W = .ok (.tuple #[.agg #[.int .u32 u.allow, .int .u32 u.audit, .int .u32 u.dont], .bool ok]) W))
    {Q' : Exit → Act → World → Prop} (hend : ∀ (v6 v10 v11 v12 v13 v14 v15 v16 v17 v18 : Value) (w' : World), RowKit.Below w.heap.size w w' → Q' .normal ⟨#[.pointer (some ⟨sb, 0, none⟩), x1, x2, x3, .pointer (some ⟨kb, 0, none⟩), x5, v6, .bool ok, x8, x9, v10, v11, v12, v13, v14, v15, v16, v17, v18, x19, x20, x21, x22, x23, x24, x25, x26, x27, x28, x29, x30, x31, x32, x33, x34, x35, x36, x37, x38, x39, x40, x41, x42, x43, x44, x45, x46], []⟩ w') :
    Code.wp Try.prog (findRegion7 1 ((Try.f40.body).getD .skip)) Q' ⟨#[.pointer (some ⟨sb, 0, none⟩), x1, x2, x3, .pointer (some ⟨kb, 0, none⟩), x5, x6, x7, x8, x9, x10, x11, x12, x13, x14, x15, x16, x17, x18, x19, x20, x21, x22, x23, x24, x25, x26, x27, x28, x29, x30, x31, x32, x33, x34, x35, x36, x37, x38, x39, x40, x41, x42, x43, x44, x45, x46], []⟩ w := by
  have HEND := Lib.hid hend
  clear hend
  conv => arg 2; whnf
  conv => arg 4; dsimp only
  refine wp_region_goods [some 11, some 12, some 13, some 14, some 15, some 16, some 10, some 17, some 18, some 6, none] [isW (.pointer (some ⟨sb, 0, none⟩)), isW (.pointer (some ⟨sb, 0, none⟩)), isW (.pointer (some ⟨sb, 0, none⟩)), isW (.map (some mb)), isW (.agg #[.int .i64 k.src, .int .i64 k.tgt, .int .i64 k.cls, .int .i64 k.cond]), isW (.tuple #[.agg #[.int .u32 u.allow, .int .u32 u.audit, .int .u32 u.dont], .bool ok]), isW (.tuple #[.agg #[.int .u32 u.allow, .int .u32 u.audit, .int .u32 u.dont], .bool ok]), isW (.agg #[.int .u32 u.allow, .int .u32 u.audit, .int .u32 u.dont]), isW (.bool ok), (fun L v w' => L 10 = false → ∃ g, v = .pointer (some ⟨g, 0, none⟩) ∧ w.heap.size ≤ g ∧ Whole w' g 62 #[.int .u32 0, .int .u32 0, .int .u32 0]), (fun _ _ _ => True)] (fun _ w' => RowKit.Below w.heap.size w w') [10] (by kernel_rfl) (by kernel_rfl) (by kernel_rfl) rfl (by decide) rfl rfl ((Below.refl _ _).drew) ⟨lastsW_is _, lastsW_is _, lastsW_is _, lastsW_is _, lastsW_is _, lastsW_is _, lastsW_is _, lastsW_is _, lastsW_is _, (fun L i v w1 w2 _ h hb h5 => let ⟨g, e, hg, hw⟩ := h (upd_was h5); ⟨g, e, hg, Whole.under hb hw hw.lt⟩), (fun _ _ _ _ _ _ _ _ => trivial), trivial⟩ ⟨?_, ?_, ?_, ?_, ?_, ?_, ?_, ?_, ?_, ?_, ?_, ?_⟩
  · intro L a wy Q' hL hi H F hK
    try dsimp only at hi
    have h0 : a.tmps[0]? = some (.pointer (some ⟨sb, 0, none⟩)) := F 0 rfl
    have HI := Lib.hid hi
    clear H F hi hL
    go_wp2_with fail
    exact hK _ _ (Below.refl _ _) HI.out rfl
  · intro L a wy Q' hL hi H F hK
    try dsimp only at hi
    obtain ⟨_, h11, rfl⟩ := H 0 ⟨.data, by simp, rfl⟩ _ rfl
    replace h11 := h11 _ rfl
    have HI := Lib.hid hi
    clear H F hi hL
    go_wp2_with fail
    exact hK _ _ (Below.refl _ _) HI.out rfl
  · intro L a wy Q' hL hi H F hK
    try dsimp only at hi
    obtain ⟨_, h12, rfl⟩ := H 1 ⟨.data, by simp, rfl⟩ _ rfl
    replace h12 := h12 _ rfl
    have HI := Lib.hid hi
    clear H F hi hL
    go_wp2_with fail
    exact hK _ _ (Below.refl _ _) HI.out rfl
  · intro L a wy Q' hL hi H F hK
    try dsimp only at hi
    obtain ⟨_, h13, rfl⟩ := H 2 ⟨.data, by simp, rfl⟩ _ rfl
    replace h13 := h13 _ rfl
    have HI := Lib.hid hi
    clear H F hi hL
    have kq0 : wy.cell? ⟨sb, 0, none⟩ = some (.map (some mb)) := (Whole.under HI.out HS.out (Whole.lt HS.out)).cell 0
    go_wp2_with fail
    exact hK _ _ (Below.refl _ _) HI.out rfl
  · intro L a wy Q' hL hi H F hK
    try dsimp only at hi
    have h4 : a.tmps[4]? = some (.pointer (some ⟨kb, 0, none⟩)) := F 4 rfl
    have HI := Lib.hid hi
    clear H F hi hL
    have kq0 : wy.cell? ⟨kb, 0, none⟩ = some (.int .i64 k.src) := (Whole.under HI.out HK.out (Whole.lt HK.out)).cell 0
    have kq1 : wy.cell? ⟨kb, 1, none⟩ = some (.int .i64 k.tgt) := (Whole.under HI.out HK.out (Whole.lt HK.out)).cell 1
    have kq2 : wy.cell? ⟨kb, 2, none⟩ = some (.int .i64 k.cls) := (Whole.under HI.out HK.out (Whole.lt HK.out)).cell 2
    have kq3 : wy.cell? ⟨kb, 3, none⟩ = some (.int .i64 k.cond) := (Whole.under HI.out HK.out (Whole.lt HK.out)).cell 3
    go_wp2_with fail
    exact hK _ _ (Below.refl _ _) HI.out rfl
  · intro L a wy Q' hL hi H F hK
    try dsimp only at hi
    obtain ⟨_, h14, rfl⟩ := H 3 ⟨.data, by simp, rfl⟩ _ rfl
    replace h14 := h14 _ rfl
    obtain ⟨_, h15, rfl⟩ := H 4 ⟨.data, by simp, rfl⟩ _ rfl
    replace h15 := h15 _ rfl
    have HI := Lib.hid hi
    clear H F hi hL
    have q := HL.out wy HI.out
    go_wp2_with fail
    exact hK _ _ (Below.refl _ _) HI.out rfl
  · intro L a wy Q' hL hi H F hK
    try dsimp only at hi
    obtain ⟨_, h16, rfl⟩ := H 5 ⟨.data, by simp, rfl⟩ _ rfl
    replace h16 := h16 _ rfl
    have HI := Lib.hid hi
    clear H F hi hL
    go_wp2_with fail
    exact hK _ _ (Below.refl _ _) HI.out rfl
  · intro L a wy Q' hL hi H F hK
    try dsimp only at hi
    obtain ⟨_, h10, rfl⟩ := H 6 ⟨.data, by simp, rfl⟩ _ rfl
    replace h10 := h10 _ rfl
    have HI := Lib.hid hi
    clear H F hi hL
    go_wp2_with fail
    exact hK _ _ (Below.refl _ _) HI.out rfl
  · intro L a wy Q' hL hi H F hK
    try dsimp only at hi
    obtain ⟨_, h10, rfl⟩ := H 6 ⟨.data, by simp, rfl⟩ _ rfl
    replace h10 := h10 _ rfl
    have HI := Lib.hid hi
    clear H F hi hL
    go_wp2_with fail
    exact hK _ _ (Below.refl _ _) HI.out rfl
  · intro L a wy Q' hL hi H F hK
    try dsimp only at hi
    have HI := Lib.hid hi
    clear H F hi hL
    have HK9 := Lib.hid hK
    clear hK
    go_wp2_with fail
    exact HK9.out _ _ ((Below.refl _ _).alloc (Nat.le_refl _) _) (HI.out.alloc HI.out.size _) (fun _ => ⟨wy.heap.size, rfl, HI.out.size, Whole.new wy 62 _⟩)
  · intro L a wy Q' hL hi H F hK
    try dsimp only at hi
    obtain ⟨_, h17, rfl⟩ := H 7 ⟨.data, by simp, rfl⟩ _ rfl
    replace h17 := h17 _ rfl
    obtain ⟨v6, h6, hv6⟩ := H 9 ⟨.data, by simp, rfl⟩ _ rfl
    replace h6 := h6 _ rfl
    have HV6 := Lib.hid hv6
    clear hv6
    have HI := Lib.hid hi
    clear H F hi
    obtain ⟨g, rfl, hg, hw⟩ := HV6.out hL
    refine wpList_store_blk rfl 62 _ _ rfl g 0 (.agg #[.int .u32 u.allow, .int .u32 u.audit, .int .u32 u.dont]) (by simp [Act.eval, *]) (by simp [Act.eval, *]) 62 _ hw (by simp [Value.cells]) size62 rfl ?_
    intro w2 S2 W2
    exact hK undef w2 (show KeepAll _ _ _ _ _ _ _ _ from ⟨(fun _ _ _ _ h => h), (fun _ _ _ _ h => h), (fun _ _ _ _ h => h), (fun _ _ _ _ h => h), (fun _ _ _ _ h => h), (fun _ _ _ _ h => h), (fun _ _ _ _ h => h), (fun _ _ _ _ h => h), (fun _ _ _ _ h => h), (fun _ _ _ _ h => fun h5 => by simp [upd] at h5), (fun h => absurd rfl h), trivial⟩) (HI.out.trans (S2.below hg)) trivial
  · intro a wy L hl hi hL Q' hK
    try dsimp only at hi
    have HB := Lib.hid hi
    clear hi hL
    obtain ⟨_, rfl, _, rfl, _, rfl, _, rfl, _, rfl, _, rfl, _, rfl, _, rfl, _, rfl, u6, hu6, un10, hun10, rfl⟩ := hl
    have HU6 := Lib.hid hu6
    clear hu6
    have HUn10 := Lib.hid hun10
    clear hun10
    simp only [List.setIfInBounds_toArray, List.set_cons_zero, List.set_cons_succ]
    go_wp2_with fail
    exact HEND.out _ _ _ _ _ _ _ _ _ _ _ HB.out
set_option maxRecDepth 100000 in
set_option maxHeartbeats 4000000 in
theorem put3 (w : World) (sb kb mb p : Nat) (kv : Value) (k : Key4) (x1 x2 x3 x5 x6 x7 x8 x9 x10 x11 x12 x13 x14 x15 x16 x17 x18 x19 x20 x21 x22 x23 x24 x25 x26 x27 x28 x29 x30 x31 x32 x33 x34 x35 x36 x37 x38 x39 x40 x41 x42 x43 x44 x45 x46 : Value) (HS : Hid (Whole w sb 73 #[.map (some mb), kv])) (HK : Hid (Whole w kb 60 #[.int .i64 k.src, .int .i64 k.tgt, .int .i64 k.cls, .int .i64 k.cond])) (HC : Hid (∀ W, RowKit.Below w.heap.size w W → Calls Try.prog 44 #[kv, .agg #[.int .i64 k.src, .int .i64 k.tgt, .int .i64 k.cls, .int .i64 k.cond], .func (.func 45) #[] #[]] W fun e w' => e = .returned (.tuple #[.int .i64 (p : Nat), .bool false]) ∧ RowKit.Below W.heap.size W w'))
    {Q' : Exit → Act → World → Prop} (hend : ∀ (v9 v21 v22 v23 v24 v25 v26 v27 v28 v29 : Value) (w' : World), RowKit.Below w.heap.size w w' → Q' .normal ⟨#[.pointer (some ⟨sb, 0, none⟩), x1, x2, x3, .pointer (some ⟨kb, 0, none⟩), x5, x6, x7, .int .i64 (p : Nat), v9, x10, x11, x12, x13, x14, x15, x16, x17, x18, x19, x20, v21, v22, v23, v24, v25, v26, v27, v28, v29, x30, x31, x32, x33, x34, x35, x36, x37, x38, x39, x40, x41, x42, x43, x44, x45, x46], []⟩ w') :
    Code.wp Try.prog (findRegion7 3 ((Try.f40.body).getD .skip)) Q' ⟨#[.pointer (some ⟨sb, 0, none⟩), x1, x2, x3, .pointer (some ⟨kb, 0, none⟩), x5, x6, x7, x8, x9, x10, x11, x12, x13, x14, x15, x16, x17, x18, x19, x20, x21, x22, x23, x24, x25, x26, x27, x28, x29, x30, x31, x32, x33, x34, x35, x36, x37, x38, x39, x40, x41, x42, x43, x44, x45, x46], []⟩ w := by
  have HEND := Lib.hid hend
  clear hend
  conv => arg 2; whnf
  conv => arg 4; dsimp only
  refine wp_region_goods [some 22, some 23, some 24, some 25, some 26, some 27, some 21, some 28, some 29, some 8] [isW (.pointer (some ⟨sb, 0, none⟩)), isW (.pointer (some ⟨sb, 0, none⟩)), isW (.pointer (some ⟨sb, 1, none⟩)), isW (kv), isW (.agg #[.int .i64 k.src, .int .i64 k.tgt, .int .i64 k.cls, .int .i64 k.cond]), isW (.tuple #[.int .i64 (p : Nat), .bool false]), isW (.tuple #[.int .i64 (p : Nat), .bool false]), isW (.int .i64 (p : Nat)), isW (.bool false), isW (.int .i64 (p : Nat))] (fun _ w' => RowKit.Below w.heap.size w w') [] (by kernel_rfl) (by kernel_rfl) (by kernel_rfl) rfl (by decide) rfl rfl ((Below.refl _ _).drew) ⟨lastsW_is _, lastsW_is _, lastsW_is _, lastsW_is _, lastsW_is _, lastsW_is _, lastsW_is _, lastsW_is _, lastsW_is _, lastsW_is _, trivial⟩ ⟨?_, ?_, ?_, ?_, ?_, ?_, ?_, ?_, ?_, ?_, ?_⟩
  · intro L a wy Q' hL hi H F hK
    try dsimp only at hi
    have h0 : a.tmps[0]? = some (.pointer (some ⟨sb, 0, none⟩)) := F 0 rfl
    have HI := Lib.hid hi
    clear H F hi hL
    go_wp2_with fail
    exact hK _ _ (Below.refl _ _) HI.out rfl
  · intro L a wy Q' hL hi H F hK
    try dsimp only at hi
    obtain ⟨_, h22, rfl⟩ := H 0 ⟨.data, by simp, rfl⟩ _ rfl
    replace h22 := h22 _ rfl
    have HI := Lib.hid hi
    clear H F hi hL
    go_wp2_with fail
    exact hK _ _ (Below.refl _ _) HI.out rfl
  · intro L a wy Q' hL hi H F hK
    try dsimp only at hi
    obtain ⟨_, h23, rfl⟩ := H 1 ⟨.data, by simp, rfl⟩ _ rfl
    replace h23 := h23 _ rfl
    have HI := Lib.hid hi
    clear H F hi hL
    go_wp2_with fail
    exact hK _ _ (Below.refl _ _) HI.out rfl
  · intro L a wy Q' hL hi H F hK
    try dsimp only at hi
    obtain ⟨_, h24, rfl⟩ := H 2 ⟨.data, by simp, rfl⟩ _ rfl
    replace h24 := h24 _ rfl
    have HI := Lib.hid hi
    clear H F hi hL
    have kq0 : wy.cell? ⟨sb, 1, none⟩ = some (kv) := (Whole.under HI.out HS.out (Whole.lt HS.out)).cell 1
    go_wp2_with fail
    exact hK _ _ (Below.refl _ _) HI.out rfl
  · intro L a wy Q' hL hi H F hK
    try dsimp only at hi
    have h4 : a.tmps[4]? = some (.pointer (some ⟨kb, 0, none⟩)) := F 4 rfl
    have HI := Lib.hid hi
    clear H F hi hL
    have kq0 : wy.cell? ⟨kb, 0, none⟩ = some (.int .i64 k.src) := (Whole.under HI.out HK.out (Whole.lt HK.out)).cell 0
    have kq1 : wy.cell? ⟨kb, 1, none⟩ = some (.int .i64 k.tgt) := (Whole.under HI.out HK.out (Whole.lt HK.out)).cell 1
    have kq2 : wy.cell? ⟨kb, 2, none⟩ = some (.int .i64 k.cls) := (Whole.under HI.out HK.out (Whole.lt HK.out)).cell 2
    have kq3 : wy.cell? ⟨kb, 3, none⟩ = some (.int .i64 k.cond) := (Whole.under HI.out HK.out (Whole.lt HK.out)).cell 3
    go_wp2_with fail
    exact hK _ _ (Below.refl _ _) HI.out rfl
  · intro L a wy Q' hL hi H F hK
    try dsimp only at hi
    obtain ⟨_, h25, rfl⟩ := H 3 ⟨.data, by simp, rfl⟩ _ rfl
    replace h25 := h25 _ rfl
    obtain ⟨_, h26, rfl⟩ := H 4 ⟨.data, by simp, rfl⟩ _ rfl
    replace h26 := h26 _ rfl
    have HI := Lib.hid hi
    clear H F hi hL
    have HK := Lib.hid hK
    clear hK
    go_wp2_with (go_at_call 44; go_must (refine (HC.out wy HI.out).mono ?_; rintro e w1 ⟨rfl, hb1⟩))
    exact HK.out _ _ hb1 (HI.out.trans (hb1.mono HI.out.size)) rfl
  · intro L a wy Q' hL hi H F hK
    try dsimp only at hi
    obtain ⟨_, h27, rfl⟩ := H 5 ⟨.data, by simp, rfl⟩ _ rfl
    replace h27 := h27 _ rfl
    have HI := Lib.hid hi
    clear H F hi hL
    go_wp2_with fail
    exact hK _ _ (Below.refl _ _) HI.out rfl
  · intro L a wy Q' hL hi H F hK
    try dsimp only at hi
    obtain ⟨_, h21, rfl⟩ := H 6 ⟨.data, by simp, rfl⟩ _ rfl
    replace h21 := h21 _ rfl
    have HI := Lib.hid hi
    clear H F hi hL
    go_wp2_with fail
    exact hK _ _ (Below.refl _ _) HI.out rfl
  · intro L a wy Q' hL hi H F hK
    try dsimp only at hi
    obtain ⟨_, h21, rfl⟩ := H 6 ⟨.data, by simp, rfl⟩ _ rfl
    replace h21 := h21 _ rfl
    have HI := Lib.hid hi
    clear H F hi hL
    go_wp2_with fail
    exact hK _ _ (Below.refl _ _) HI.out rfl
  · intro L a wy Q' hL hi H F hK
    try dsimp only at hi
    obtain ⟨_, h28, rfl⟩ := H 7 ⟨.data, by simp, rfl⟩ _ rfl
    replace h28 := h28 _ rfl
    have HI := Lib.hid hi
    clear H F hi hL
    go_wp2_with fail
    exact hK _ _ (Below.refl _ _) HI.out rfl
  · intro a wy L hl hi hL Q' hK
    try dsimp only at hi
    have HB := Lib.hid hi
    clear hi hL
    obtain ⟨_, rfl, _, rfl, _, rfl, _, rfl, _, rfl, _, rfl, _, rfl, _, rfl, _, rfl, _, rfl, rfl⟩ := hl
    simp only [List.setIfInBounds_toArray, List.set_cons_zero, List.set_cons_succ]
    go_wp2_with fail
    exact HEND.out _ _ _ _ _ _ _ _ _ _ _ HB.out
set_option maxRecDepth 100000 in
set_option maxHeartbeats 4000000 in
theorem put4 (w : World) (base sb kb mb p n : Nat) (kv : Value) (k : Key4) (FC : List Value) (x1 x2 x3 x5 x6 x7 x9 x10 x11 x12 x13 x14 x15 x16 x17 x18 x19 x20 x21 x22 x23 x24 x25 x26 x27 x28 x29 x30 x31 x32 x33 x34 x35 x36 x37 x38 x39 x40 x41 x42 x43 x44 x45 x46 : Value) (HS : Hid (Whole w sb 73 #[.map (some mb), kv])) (HK : Hid (Whole w kb 60 #[.int .i64 k.src, .int .i64 k.tgt, .int .i64 k.cls, .int .i64 k.cond])) (HSBN : Hid (kv.ownBlock ≠ some sb)) (HKBN : Hid (kv.ownBlock ≠ some kb)) (HOB : Hid (∀ q, kv.ownBlock = some q → q < w.heap.size)) (HOL : Hid (∀ q, kv.ownBlock = some q → base ≤ q)) (HBS : Hid (base ≤ w.heap.size)) (HBL : Hid (base ≤ sb)) (HC : Hid (∀ W g, RowKit.Below w.heap.size w W → Whole W g 60 #[.int .i64 k.src, .int .i64 k.tgt, .int .i64 k.cls, .int .i64 k.cond] → kv.ownBlock ≠ some g → Calls Try.prog 46 #[kv, .int .i64 (p : Nat), .slice (some ⟨g, 0, none⟩) 1 1] W fun e w' => ∃ v, e = .returned v ∧ w'.ownsRow base 60 4 v (n + 1) FC ∧ W.grownBy w' kv.ownBlock))
    {Q' : Exit → Act → World → Prop} (hend : ∀ (v30 v31 v32 v33 v34 v35 v36 v37 v38 v39 v40 : Value) (v : Value) (w' : World), (Whole w' sb 73 #[.map (some mb), v] ∧ w'.ownsRow base 60 4 v (n + 1) FC ∧ (∀ b, b < w.heap.size → b ≠ sb → kv.ownBlock ≠ some b → w'.heap[b]? = w.heap[b]?) ∧ RowKit.Below base w w') → Q' .normal ⟨#[.pointer (some ⟨sb, 0, none⟩), x1, x2, x3, .pointer (some ⟨kb, 0, none⟩), x5, x6, x7, .int .i64 (p : Nat), x9, x10, x11, x12, x13, x14, x15, x16, x17, x18, x19, x20, x21, x22, x23, x24, x25, x26, x27, x28, x29, v30, v31, v32, v33, v34, v35, v36, v37, v38, v39, v40, x41, x42, x43, x44, x45, x46], []⟩ w') :
    Code.wp Try.prog (findRegion7 4 ((Try.f40.body).getD .skip)) Q' ⟨#[.pointer (some ⟨sb, 0, none⟩), x1, x2, x3, .pointer (some ⟨kb, 0, none⟩), x5, x6, x7, .int .i64 (p : Nat), x9, x10, x11, x12, x13, x14, x15, x16, x17, x18, x19, x20, x21, x22, x23, x24, x25, x26, x27, x28, x29, x30, x31, x32, x33, x34, x35, x36, x37, x38, x39, x40, x41, x42, x43, x44, x45, x46], []⟩ w := by
  have HEND := Lib.hid hend
  clear hend
  conv => arg 2; whnf
  conv => arg 4; dsimp only
  refine wp_region_goods [some 30, some 31, some 32, some 33, some 34, some 35, some 36, some 37, some 38, some 39, some 40] [isW (.pointer (some ⟨sb, 0, none⟩)), isW (.pointer (some ⟨sb, 0, none⟩)), isW (.pointer (some ⟨sb, 0, none⟩)), isW (.pointer (some ⟨sb, 1, none⟩)), isW (kv), isW (.int .i64 (p : Nat)), isW (.agg #[.int .i64 k.src, .int .i64 k.tgt, .int .i64 k.cls, .int .i64 k.cond]), (fun L v w' => L 8 = false → ∃ g, v = .slice (some ⟨g, 0, none⟩) 1 1 ∧ w.heap.size ≤ g ∧ Whole w' g 60 #[.int .i64 k.src, .int .i64 k.tgt, .int .i64 k.cls, .int .i64 k.cond]), (fun _ v w' => w'.ownsRow base 60 4 v (n + 1) FC), isW (.pointer (some ⟨sb, 0, none⟩)), isW (.pointer (some ⟨sb, 1, none⟩))] (fun L w' => (L 8 = false → RowKit.Below w.heap.size w w') ∧ (∀ b, b < w.heap.size → kv.ownBlock ≠ some b → w'.heap[b]? = w.heap[b]?) ∧ RowKit.Below base w w') [8] (by kernel_rfl) (by kernel_rfl) (by kernel_rfl) rfl (by decide) rfl rfl (⟨fun _ => (RowKit.Below.refl _ _).drew, (fun _ _ _ => rfl), (RowKit.Below.refl _ _).drew⟩) ⟨lastsW_is _, lastsW_is _, lastsW_is _, lastsW_is _, lastsW_is _, lastsW_is _, lastsW_is _, (fun L i v w1 w2 _ h hb h5 => let ⟨g, e, hg, hw⟩ := h (upd_was h5); ⟨g, e, hg, Whole.under hb hw hw.lt⟩), (fun L i v w1 w2 _ h hb => own_keep hb h (Nat.le_refl _)), lastsW_is _, lastsW_is _, trivial⟩ ⟨?_, ?_, ?_, ?_, ?_, ?_, ?_, ?_, ?_, ?_, ?_, ?_⟩
  · intro L a wy Q' hL hi H F hK
    try dsimp only at hi
    have h0 : a.tmps[0]? = some (.pointer (some ⟨sb, 0, none⟩)) := F 0 rfl
    have HI := Lib.hid hi
    clear H F hi hL
    go_wp2_with fail
    exact hK _ _ (Below.refl _ _) HI.out rfl
  · intro L a wy Q' hL hi H F hK
    try dsimp only at hi
    have h0 : a.tmps[0]? = some (.pointer (some ⟨sb, 0, none⟩)) := F 0 rfl
    have HI := Lib.hid hi
    clear H F hi hL
    go_wp2_with fail
    exact hK _ _ (Below.refl _ _) HI.out rfl
  · intro L a wy Q' hL hi H F hK
    try dsimp only at hi
    obtain ⟨_, h31, rfl⟩ := H 1 ⟨.data, by simp, rfl⟩ _ rfl
    replace h31 := h31 _ rfl
    have HI := Lib.hid hi
    clear H F hi hL
    go_wp2_with fail
    exact hK _ _ (Below.refl _ _) HI.out rfl
  · intro L a wy Q' hL hi H F hK
    try dsimp only at hi
    obtain ⟨_, h32, rfl⟩ := H 2 ⟨.data, by simp, rfl⟩ _ rfl
    replace h32 := h32 _ rfl
    have HI := Lib.hid hi
    clear H F hi hL
    go_wp2_with fail
    exact hK _ _ (Below.refl _ _) HI.out rfl
  · intro L a wy Q' hL hi H F hK
    try dsimp only at hi
    obtain ⟨_, h33, rfl⟩ := H 3 ⟨.data, by simp, rfl⟩ _ rfl
    replace h33 := h33 _ rfl
    have HI := Lib.hid hi
    clear H F hi hL
    have kq0 : wy.cell? ⟨sb, 1, none⟩ = some (kv) := (stays HI.out.2.1 HS.out HSBN.out).cell 1
    go_wp2_with fail
    exact hK _ _ (Below.refl _ _) HI.out rfl
  · intro L a wy Q' hL hi H F hK
    try dsimp only at hi
    have h8 : a.tmps[8]? = some (.int .i64 (p : Nat)) := F 8 rfl
    have HI := Lib.hid hi
    clear H F hi hL
    go_wp2_with fail
    exact hK _ _ (Below.refl _ _) HI.out rfl
  · intro L a wy Q' hL hi H F hK
    try dsimp only at hi
    have h4 : a.tmps[4]? = some (.pointer (some ⟨kb, 0, none⟩)) := F 4 rfl
    have HI := Lib.hid hi
    clear H F hi hL
    have kq0 : wy.cell? ⟨kb, 0, none⟩ = some (.int .i64 k.src) := (stays HI.out.2.1 HK.out HKBN.out).cell 0
    have kq1 : wy.cell? ⟨kb, 1, none⟩ = some (.int .i64 k.tgt) := (stays HI.out.2.1 HK.out HKBN.out).cell 1
    have kq2 : wy.cell? ⟨kb, 2, none⟩ = some (.int .i64 k.cls) := (stays HI.out.2.1 HK.out HKBN.out).cell 2
    have kq3 : wy.cell? ⟨kb, 3, none⟩ = some (.int .i64 k.cond) := (stays HI.out.2.1 HK.out HKBN.out).cell 3
    go_wp2_with fail
    exact hK _ _ (Below.refl _ _) HI.out rfl
  · intro L a wy Q' hL hi H F hK
    try dsimp only at hi
    obtain ⟨_, h36, rfl⟩ := H 6 ⟨.data, by simp, rfl⟩ _ rfl
    replace h36 := h36 _ rfl
    have HI := Lib.hid hi
    clear H F hi
    have HK9 := Lib.hid hK
    clear hK
    go_wp2_with fail
    exact HK9.out _ _ ((Below.refl _ _).alloc (Nat.le_refl _) _) ⟨fun h => (HI.out.1 h).alloc (HI.out.1 h).size _, (fun b hb hn => by rw [(Below.heap_alloc _ _ b (Nat.lt_of_lt_of_le hb HI.out.2.2.size))]; exact HI.out.2.1 b hb hn), HI.out.2.2.alloc (Nat.le_trans HBS.out HI.out.2.2.size) _⟩ (fun h => ⟨wy.heap.size, rfl, (HI.out.1 h).size, Whole.new wy 60 _⟩)
  · intro L a wy Q' hL hi H F hK
    try dsimp only at hi
    obtain ⟨_, h34, rfl⟩ := H 4 ⟨.data, by simp, rfl⟩ _ rfl
    replace h34 := h34 _ rfl
    obtain ⟨_, h35, rfl⟩ := H 5 ⟨.data, by simp, rfl⟩ _ rfl
    replace h35 := h35 _ rfl
    obtain ⟨v37, h37, hv37⟩ := H 7 ⟨.data, by simp, rfl⟩ _ rfl
    replace h37 := h37 _ rfl
    have HV37 := Lib.hid hv37
    clear hv37
    have HI := Lib.hid hi
    clear H F hi
    obtain ⟨g, rfl, hg, hw⟩ := HV37.out hL
    have HW := Lib.hid hw
    have HG := Lib.hid hg
    have HK9 := Lib.hid hK
    have HL8 := Lib.hid hL
    clear hK hw hg HV37 hL
    go_wp2_with (go_at_call 46; go_must (refine (HC.out wy g (HI.out.1 HL8.out) HW.out (fun e => absurd (HOB.out _ e) (Nat.not_lt.2 HG.out))).mono ?_; rintro e w1 ⟨v1, rfl, ho1, hg1⟩))
    exact HK9.out _ _ (show KeepAll _ _ _ _ _ _ _ _ from ⟨(fun _ _ _ _ h => h), (fun _ _ _ _ h => h), (fun _ _ _ _ h => h), (fun _ _ _ _ h => h), (fun _ _ _ _ h => h), (fun _ _ _ _ h => h), (fun _ _ _ _ h => h), (fun _ _ _ _ h => fun h5 => by simp [upd] at h5), (fun h => absurd rfl h), (fun _ _ _ _ h => h), (fun _ _ _ _ h => h), trivial⟩) ⟨fun h => by simp [upd] at h, (fun b hb hn => by rw [hg1.block b (Nat.lt_of_lt_of_le hb HI.out.2.2.size) (fun e => hn e.symm)]; exact HI.out.2.1 b hb hn), HI.out.2.2.grown hg1 (Nat.le_trans HBS.out HI.out.2.2.size) (fun q hq => HOL.out q hq)⟩ ho1
  · intro L a wy Q' hL hi H F hK
    try dsimp only at hi
    obtain ⟨_, h30, rfl⟩ := H 0 ⟨.data, by simp, rfl⟩ _ rfl
    replace h30 := h30 _ rfl
    have HI := Lib.hid hi
    clear H F hi hL
    go_wp2_with fail
    exact hK _ _ (Below.refl _ _) HI.out rfl
  · intro L a wy Q' hL hi H F hK
    try dsimp only at hi
    obtain ⟨_, h39, rfl⟩ := H 9 ⟨.data, by simp, rfl⟩ _ rfl
    replace h39 := h39 _ rfl
    have HI := Lib.hid hi
    clear H F hi hL
    go_wp2_with fail
    exact hK _ _ (Below.refl _ _) HI.out rfl
  · intro a wy L hl hi hL Q' hK
    try dsimp only at hi
    have HB := Lib.hid hi
    clear hi hL
    obtain ⟨_, rfl, _, rfl, _, rfl, _, rfl, _, rfl, _, rfl, _, rfl, u37, hu37, u38, hu38, _, rfl, _, rfl, rfl⟩ := hl
    have HU37 := Lib.hid hu37
    clear hu37
    have HU38 := Lib.hid hu38
    clear hu38
    simp only [List.setIfInBounds_toArray, List.set_cons_zero, List.set_cons_succ]
    obtain ⟨ua, uc, hua⟩ := own_shape HU38.out
    subst hua
    have HWS := Lib.hid (stays HB.out.2.1 HS.out HSBN.out)
    go_wp2_with (refine wpList_store_blk rfl 71 _ _ rfl sb 1 (.slice ua (n + 1) uc) rfl rfl 73 _ HWS.out (by simp [Value.cells]) size71 rfl ?_; intro w9 S9 W9; have HS9 := Lib.hid S9; have HW9 := Lib.hid (show Whole w9 sb 73 #[.map (some mb), .slice ua (n + 1) uc] from W9); clear S9 W9)
    exact HEND.out _ _ _ _ _ _ _ _ _ _ _ _ w9 ⟨HW9.out, HS9.out.own HU38.out (own_blk_far HU38.out HWS.out (by decide)), (fun b hb hs hn => by rw [HS9.out.block b hs]; exact HB.out.2.1 b hb hn), HB.out.2.2.trans (HS9.out.below HBL.out)⟩
set_option maxRecDepth 100000 in
set_option maxHeartbeats 4000000 in
theorem put5 (w : World) (sb kb vb mb : Nat) (kv : Value) (k : Key4) (v : AVec) (Post : World → World → Prop) (x1 x2 x3 x6 x7 x8 x9 x10 x11 x12 x13 x14 x15 x16 x17 x18 x19 x20 x21 x22 x23 x24 x25 x26 x27 x28 x29 x30 x31 x32 x33 x34 x35 x36 x37 x38 x39 x40 x41 x42 x43 x44 x45 x46 : Value) (HS : Hid (Whole w sb 73 #[.map (some mb), kv])) (HK : Hid (Whole w kb 60 #[.int .i64 k.src, .int .i64 k.tgt, .int .i64 k.cls, .int .i64 k.cond])) (HV : Hid (Whole w vb 62 #[.int .u32 v.allow, .int .u32 v.audit, .int .u32 v.dont])) (HP : Hid (∀ W, RowKit.Below w.heap.size w W → ∃ w', (Instr.mapUpdate 70 (.map (some mb)) (.agg #[.int .i64 k.src, .int .i64 k.tgt, .int .i64 k.cls, .int .i64 k.cond]) (.agg #[.int .u32 v.allow, .int .u32 v.audit, .int .u32 v.dont])).run Try.prog W = .ok () w' ∧ Post W w'))
    {Q' : Exit → Act → World → Prop} (hend : ∀ (v41 v42 v43 v44 v45 v46 : Value) (W w' : World), (RowKit.Below w.heap.size w W ∧ Post W w') → Q' .normal ⟨#[.pointer (some ⟨sb, 0, none⟩), x1, x2, x3, .pointer (some ⟨kb, 0, none⟩), .pointer (some ⟨vb, 0, none⟩), x6, x7, x8, x9, x10, x11, x12, x13, x14, x15, x16, x17, x18, x19, x20, x21, x22, x23, x24, x25, x26, x27, x28, x29, x30, x31, x32, x33, x34, x35, x36, x37, x38, x39, x40, v41, v42, v43, v44, v45, v46], []⟩ w') :
    Code.wp Try.prog (findRegion7 5 ((Try.f40.body).getD .skip)) Q' ⟨#[.pointer (some ⟨sb, 0, none⟩), x1, x2, x3, .pointer (some ⟨kb, 0, none⟩), .pointer (some ⟨vb, 0, none⟩), x6, x7, x8, x9, x10, x11, x12, x13, x14, x15, x16, x17, x18, x19, x20, x21, x22, x23, x24, x25, x26, x27, x28, x29, x30, x31, x32, x33, x34, x35, x36, x37, x38, x39, x40, x41, x42, x43, x44, x45, x46], []⟩ w := by
  have HEND := Lib.hid hend
  clear hend
  conv => arg 2; whnf
  conv => arg 4; dsimp only
  refine wp_region_goods [some 41, some 42, some 43, some 44, some 45, some 46] [isW (.pointer (some ⟨sb, 0, none⟩)), isW (.pointer (some ⟨sb, 0, none⟩)), isW (.pointer (some ⟨sb, 0, none⟩)), isW (.map (some mb)), isW (.agg #[.int .i64 k.src, .int .i64 k.tgt, .int .i64 k.cls, .int .i64 k.cond]), isW (.agg #[.int .u32 v.allow, .int .u32 v.audit, .int .u32 v.dont])] (fun _ w' => RowKit.Below w.heap.size w w') [] (by kernel_rfl) (by kernel_rfl) (by kernel_rfl) rfl (by decide) rfl rfl ((Below.refl _ _).drew) ⟨lastsW_is _, lastsW_is _, lastsW_is _, lastsW_is _, lastsW_is _, lastsW_is _, trivial⟩ ⟨?_, ?_, ?_, ?_, ?_, ?_, ?_⟩
  · intro L a wy Q' hL hi H F hK
    try dsimp only at hi
    have h0 : a.tmps[0]? = some (.pointer (some ⟨sb, 0, none⟩)) := F 0 rfl
    have HI := Lib.hid hi
    clear H F hi hL
    go_wp2_with fail
    exact hK _ _ (Below.refl _ _) HI.out rfl
  · intro L a wy Q' hL hi H F hK
    try dsimp only at hi
    obtain ⟨_, h41, rfl⟩ := H 0 ⟨.data, by simp, rfl⟩ _ rfl
    replace h41 := h41 _ rfl
    have HI := Lib.hid hi
    clear H F hi hL
    go_wp2_with fail
    exact hK _ _ (Below.refl _ _) HI.out rfl
  · intro L a wy Q' hL hi H F hK
    try dsimp only at hi
    obtain ⟨_, h42, rfl⟩ := H 1 ⟨.data, by simp, rfl⟩ _ rfl
    replace h42 := h42 _ rfl
    have HI := Lib.hid hi
    clear H F hi hL
    go_wp2_with fail
    exact hK _ _ (Below.refl _ _) HI.out rfl
  · intro L a wy Q' hL hi H F hK
    try dsimp only at hi
    obtain ⟨_, h43, rfl⟩ := H 2 ⟨.data, by simp, rfl⟩ _ rfl
    replace h43 := h43 _ rfl
    have HI := Lib.hid hi
    clear H F hi hL
    have kq0 : wy.cell? ⟨sb, 0, none⟩ = some (.map (some mb)) := (Whole.under HI.out HS.out (Whole.lt HS.out)).cell 0
    go_wp2_with fail
    exact hK _ _ (Below.refl _ _) HI.out rfl
  · intro L a wy Q' hL hi H F hK
    try dsimp only at hi
    have h4 : a.tmps[4]? = some (.pointer (some ⟨kb, 0, none⟩)) := F 4 rfl
    have HI := Lib.hid hi
    clear H F hi hL
    have kq0 : wy.cell? ⟨kb, 0, none⟩ = some (.int .i64 k.src) := (Whole.under HI.out HK.out (Whole.lt HK.out)).cell 0
    have kq1 : wy.cell? ⟨kb, 1, none⟩ = some (.int .i64 k.tgt) := (Whole.under HI.out HK.out (Whole.lt HK.out)).cell 1
    have kq2 : wy.cell? ⟨kb, 2, none⟩ = some (.int .i64 k.cls) := (Whole.under HI.out HK.out (Whole.lt HK.out)).cell 2
    have kq3 : wy.cell? ⟨kb, 3, none⟩ = some (.int .i64 k.cond) := (Whole.under HI.out HK.out (Whole.lt HK.out)).cell 3
    go_wp2_with fail
    exact hK _ _ (Below.refl _ _) HI.out rfl
  · intro L a wy Q' hL hi H F hK
    try dsimp only at hi
    have h5 : a.tmps[5]? = some (.pointer (some ⟨vb, 0, none⟩)) := F 5 rfl
    have HI := Lib.hid hi
    clear H F hi hL
    have kq0 : wy.cell? ⟨vb, 0, none⟩ = some (.int .u32 v.allow) := (Whole.under HI.out HV.out (Whole.lt HV.out)).cell 0
    have kq1 : wy.cell? ⟨vb, 1, none⟩ = some (.int .u32 v.audit) := (Whole.under HI.out HV.out (Whole.lt HV.out)).cell 1
    have kq2 : wy.cell? ⟨vb, 2, none⟩ = some (.int .u32 v.dont) := (Whole.under HI.out HV.out (Whole.lt HV.out)).cell 2
    go_wp2_with fail
    exact hK _ _ (Below.refl _ _) HI.out rfl
  · intro a wy L hl hi hL Q' hK
    try dsimp only at hi
    have HB := Lib.hid hi
    clear hi hL
    obtain ⟨_, rfl, _, rfl, _, rfl, _, rfl, _, rfl, _, rfl, rfl⟩ := hl
    simp only [List.setIfInBounds_toArray, List.set_cons_zero, List.set_cons_succ]
    go_wp2_with (refine wpList_put _ rfl (.tmp 44) (.tmp 45) (.tmp 46) 70 rfl (.map (some mb)) (.agg #[.int .i64 k.src, .int .i64 k.tgt, .int .i64 k.cls, .int .i64 k.cond]) (.agg #[.int .u32 v.allow, .int .u32 v.audit, .int .u32 v.dont]) rfl rfl rfl (Post wy) (HP.out wy HB.out) ?_; intro w9 hp; have HP9 := Lib.hid hp; clear hp)
    exact HEND.out _ _ _ _ _ _ wy w9 ⟨HB.out, HP9.out⟩
end Go.Proofs.Ytlkkdpoliafjbaa
