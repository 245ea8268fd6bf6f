import Derived.Test.YtlkkdpoliafjbaaP2
/-
  Tables: an empty store; which conditions hold; the visible entries.
-/
namespace Go.Proofs.Ytlkkdpoliafjbaa
open Go Go.WideMaps Go.RowKit

theorem grown_trans {a b c : World} {r : Option Nat} (h : a.grownBy b r) (k : b.grownBy c r) : a.grownBy c r :=
  ⟨by first | exact k.os.trans h.os | exact h.os.trans k.os, by first | exact k.tape.trans h.tape | exact h.tape.trans k.tape, by first | exact k.output.trans h.output | exact h.output.trans k.output, Nat.le_trans h.size k.size, fun g hg hne => (k.block g (Nat.lt_of_lt_of_le hg h.size) hne).trans (h.block g hg hne)⟩
theorem grown_below {a b c : World} {r : Option Nat} (h : a.grownBy b r) (k : RowKit.Below a.heap.size b c) : a.grownBy c r :=
  ⟨by first | exact k.os.trans h.os | exact h.os.trans k.os, by first | exact k.tape.trans h.tape | exact h.tape.trans k.tape, by first | exact k.output.trans h.output | exact h.output.trans k.output, Nat.le_trans h.size k.size, fun g hg hne => (k.block g hg).trans (h.block g hg hne)⟩
theorem below_grown {a b : World} (k : RowKit.Below a.heap.size a b) (r : Option Nat) : a.grownBy b r := grown_below (World.grownBy.refl a r) k
theorem run_makeMap (w : World) : (Instr.makeMap 70 none).run Try.prog w = .ok (.map (some w.heap.size)) (w.alloc (.map #[] 0)) := by simp [Instr.makeMap]
theorem fresh_any (w : World) : Calls Try.prog 25 #[] w fun e w' => ∃ sb, e = .returned (.pointer (some ⟨sb, 0, none⟩)) ∧ StoreAt w' w.heap.size sb [] ∧ RowKit.Below w.heap.size w w' := by
  have q0 := run_makeMap
  go_enter Try.func25, Try.ntmps25
  go_wp2
  go_ret
  refine ⟨w.heap.size + 1, ret_val rfl, ⟨⟨w.heap.size, .slice none 0 0, ?_, ?_, ?_, by omega, Nat.le_refl _⟩, List.Pairwise.nil, by simp⟩, ((Below.refl _ w).alloc (Nat.le_refl _) _).alloc (by simp) _⟩
  · exact whole_two w _ _ _
  · exact (MapAt.made w Try.prog 60).kept (Below.heap_alloc _ _ _ (by simp))
  · exact ⟨by simp [flat], .inl ⟨rfl, rfl⟩⟩
/-- Does a condition hold? -/
def visB (vals : List Bool) (c : Int) : Bool := if c = 0 then true else if 0 < c then vals.getD (c - 1).toNat false else !(vals.getD (-c - 1).toNat false)
def aBool (b : Bool) : Value := .bool b
theorem visible_zero (w : World) (tb : Nat) : Calls Try.prog 41 #[.pointer (some ⟨tb, 0, none⟩), .int .i64 0] w fun e w' => e = .returned (.bool true) ∧ w = w' := by
  go_enter Try.func41, Try.ntmps41
  go_wp2
  go_ret
  exact ⟨rfl, rfl⟩
set_option maxRecDepth 100000 in
theorem visible_any (w : World) (tb : Nat) (x y vv : Value) (vals : List Bool) (c : Int) (hT : Whole w tb 51 #[x, y, vv]) (hv : SliceAt w vv 1 vals.length (vals.map aBool)) (hc : I64 c) (hbig : vals.length ≤ 1000000) :
    Calls Try.prog 41 #[.pointer (some ⟨tb, 0, none⟩), .int .i64 c] w fun e w' => e = .returned (.bool (visB vals c)) ∧ w = w' := by
  by_cases hz : c = 0
  · subst hz
    exact visible_zero w tb
  obtain ⟨r, hr⟩ : ∃ r, r = visB vals c := ⟨_, rfl⟩
  rw [← hr]
  unfold visB at hr
  rw [if_neg hz] at hr
  have HRR := Lib.hid hr
  clear hr
  obtain ⟨n, hn⟩ : ∃ n, n = vals.length := ⟨_, rfl⟩
  rw [← hn] at hv hbig
  obtain ⟨a, cp, rfl, hac, hmx, hcell⟩ := hv.form (by decide)
  have HN := Lib.hid hn
  have HC := Lib.hid hcell
  obtain ⟨hc1, hc2⟩ := hc
  have t2 : w.cell? ⟨tb, 2, none⟩ = some (.slice a n cp) := hT.cell 2
  clear hn hcell hv hT hac hmx
  by_cases hp : 0 < c
  · by_cases hle : c ≤ n
    · obtain ⟨i, hi⟩ : ∃ i : Nat, c - 1 = (i : Int) := ⟨(c - 1).toNat, by omega⟩
      have hin : i < n := by omega
      obtain ⟨b, off, rfl, hcl⟩ := HC.out i hin
      obtain ⟨u, hu⟩ : ∃ u, vals[i]? = some u := ⟨_, List.getElem?_eq_getElem (by rw [← HN.out]; exact hin)⟩
      have c0 : w.cell? ⟨b, off + i * 1, none⟩ = some (.bool u) := hcl 0 _ (by simp [hu, aBool])
      rw [Nat.mul_one] at c0
      have HR := Lib.hid (show r = u by rw [HRR.out, if_pos hp, show (c - 1).toNat = i by omega, List.getD_eq_getElem?_getD, hu]; rfl)
      clear hcl hu
      go_enter Try.func41, Try.ntmps41
      go_wp2
      go_ret
      rw [HR.out]
      exact ⟨rfl, rfl⟩
    · have HR := Lib.hid (show r = false by rw [HRR.out, if_pos hp, List.getD_eq_getElem?_getD, List.getElem?_eq_none (by have := HN.out; omega)]; rfl)
      go_enter Try.func41, Try.ntmps41
      go_wp2
      go_ret
      rw [HR.out]
      exact ⟨rfl, rfl⟩
  · by_cases hle : c < -(n : Int)
    · have HR := Lib.hid (show r = true by rw [HRR.out, if_neg hp, List.getD_eq_getElem?_getD, List.getElem?_eq_none (by have := HN.out; omega)]; rfl)
      go_enter Try.func41, Try.ntmps41
      go_wp2
      go_ret
      rw [HR.out]
      exact ⟨rfl, rfl⟩
    · obtain ⟨i, hi⟩ : ∃ i : Nat, -c - 1 = (i : Int) := ⟨(-c - 1).toNat, by omega⟩
      have hin : i < n := by omega
      obtain ⟨b, off, rfl, hcl⟩ := HC.out i hin
      obtain ⟨u, hu⟩ : ∃ u, vals[i]? = some u := ⟨_, List.getElem?_eq_getElem (by rw [← HN.out]; exact hin)⟩
      have c0 : w.cell? ⟨b, off + i * 1, none⟩ = some (.bool u) := hcl 0 _ (by simp [hu, aBool])
      rw [Nat.mul_one] at c0
      have HR := Lib.hid (show r = !u by rw [HRR.out, if_neg hp, show (-c - 1).toNat = i by omega, List.getD_eq_getElem?_getD, hu]; rfl)
      clear hcl hu
      go_enter Try.func41, Try.ntmps41
      go_wp2
      go_ret
      rw [HR.out]
      exact ⟨rfl, rfl⟩
theorem made_any (w : World) (tb sa : Nat) (y vv : Value) (hT : Whole w tb 51 #[.pointer (some ⟨sa, 0, none⟩), y, vv]) : Calls Try.prog 34 #[.pointer (some ⟨tb, 0, none⟩)] w fun e w' => e = .returned (.bool true) ∧ w = w' := by
  have t0 : w.cell? ⟨tb, 0, none⟩ = some (.pointer (some ⟨sa, 0, none⟩)) := hT.cell 0
  go_enter Try.func34, Try.ntmps34
  go_wp2
  go_ret
  exact ⟨rfl, rfl⟩
theorem made_zero (w : World) (tb : Nat) (y vv : Value) (hT : Whole w tb 51 #[.pointer none, y, vv]) : Calls Try.prog 34 #[.pointer (some ⟨tb, 0, none⟩)] w fun e w' => e = .returned (.bool false) ∧ w = w' := by
  have t0 : w.cell? ⟨tb, 0, none⟩ = some (.pointer none) := hT.cell 0
  go_enter Try.func34, Try.ntmps34
  go_wp2
  go_ret
  exact ⟨rfl, rfl⟩
theorem made_none (w : World) : Calls Try.prog 34 #[.pointer none] w fun e w' => e = .returned (.bool false) ∧ w = w' := by
  go_enter Try.func34, Try.ntmps34
  go_wp2
  go_ret
  exact ⟨rfl, rfl⟩
set_option maxRecDepth 100000 in
set_option maxHeartbeats 4000000 in
theorem show5 (w : World) (tb kb sa ss mb : Nat) (kv vv : Value) (k : Key4) (u : AVec) (Post : World → World → Prop) (x1 x2 x4 x5 x6 x7 x8 x9 x10 x11 x12 x13 x14 x15 x16 x17 x18 x19 x20 x21 x22 x23 x24 x25 x26 x27 x28 x29 x30 x31 x32 x33 x34 x35 x36 x37 x38 x39 x40 x41 x42 x43 x44 x45 : Value) (HT : Hid (Whole w tb 51 #[.pointer (some ⟨sa, 0, none⟩), .pointer (some ⟨ss, 0, none⟩), vv])) (HS : Hid (Whole w sa 73 #[.map (some mb), kv])) (HK : Hid (Whole w kb 60 #[.int .i64 k.src, .int .i64 k.tgt, .int .i64 k.cls, .int .i64 k.cond])) (HL : Hid (∀ W, RowKit.Below w.heap.size w W → (Instr.lookup 70 (.map (some mb)) (.agg #[.int .i64 k.src, .int .i64 k.tgt, .int .i64 k.cls, .int .i64 k.cond]) false).run Try.prog W = .ok (.agg #[.int .u32 u.allow, .int .u32 u.audit, .int .u32 u.dont]) W)) (HC : Hid (∀ W, RowKit.Below w.heap.size w W → Calls Try.prog 26 #[.pointer (some ⟨ss, 0, none⟩), .agg #[.int .i64 k.src, .int .i64 k.tgt, .int .i64 k.cls, .int .i64 0], .agg #[.int .u32 u.allow, .int .u32 u.audit, .int .u32 u.dont]] W fun e w' => e = .returned (.tuple #[]) ∧ Post W w'))
    {Q' : Exit → Act → World → Prop} (hend : ∀ (v24 v25 v26 v27 v28 v29 v30 v31 v32 v33 v34 v35 v36 v37 v38 v39 v40 v41 v42 v43 v44 : Value) (W w' : World), (RowKit.Below w.heap.size w W ∧ Post W w') → Q' .normal ⟨#[.pointer (some ⟨tb, 0, none⟩), x1, x2, .pointer (some ⟨kb, 0, none⟩), x4, x5, x6, x7, x8, x9, x10, x11, x12, x13, x14, x15, x16, x17, x18, x19, x20, x21, x22, x23, v24, v25, v26, v27, v28, v29, v30, v31, v32, v33, v34, v35, v36, v37, v38, v39, v40, v41, v42, v43, v44, x45], []⟩ w') :
    Code.wp Try.prog (findRegion7 5 ((Try.f27.body).getD .skip)) Q' ⟨#[.pointer (some ⟨tb, 0, none⟩), x1, x2, .pointer (some ⟨kb, 0, none⟩), x4, x5, x6, x7, x8, x9, x10, x11, x12, x13, x14, x15, x16, x17, x18, x19, x20, x21, x22, x23, x24, x25, x26, x27, x28, x29, x30, x31, x32, x33, x34, x35, x36, x37, x38, x39, x40, x41, x42, x43, x44, x45], []⟩ w := by
  have HEND := Lib.hid hend
  clear hend
  conv => arg 2; whnf
  conv => arg 4; dsimp only
  refine wp_region_goods [some 24, some 25, some 26, some 27, some 28, some 29, some 30, some 31, some 32, some 33, some 34, some 35, some 36, some 37, some 38, some 39, some 40, some 41, some 42, some 43] [isW (.pointer (some ⟨tb, 0, none⟩)), isW (.pointer (some ⟨tb, 0, none⟩)), isW (.pointer (some ⟨tb, 1, none⟩)), isW (.pointer (some ⟨ss, 0, none⟩)), isW (.pointer (some ⟨kb, 0, none⟩)), isW (.int .i64 k.src), isW (.pointer (some ⟨kb, 1, none⟩)), isW (.int .i64 k.tgt), isW (.pointer (some ⟨kb, 2, none⟩)), isW (.int .i64 k.cls), isW (.agg #[.int .i64 k.src, .int .i64 k.tgt, .int .i64 k.cls, .int .i64 0]), isW (.pointer (some ⟨tb, 0, none⟩)), isW (.pointer (some ⟨tb, 0, none⟩)), isW (.pointer (some ⟨tb, 0, none⟩)), isW (.pointer (some ⟨sa, 0, none⟩)), isW (.pointer (some ⟨sa, 0, none⟩)), isW (.pointer (some ⟨sa, 0, none⟩)), isW (.map (some mb)), isW (.agg #[.int .i64 k.src, .int .i64 k.tgt, .int .i64 k.cls, .int .i64 k.cond]), isW (.agg #[.int .u32 u.allow, .int .u32 u.audit, .int .u32 u.dont])] (fun _ w' => RowKit.Below w.heap.size w w') [] (by kernel_rfl) (by kernel_rfl) (by kernel_rfl) rfl (by decide) rfl rfl ((Below.refl _ _).drew) ⟨lastsW_is _, lastsW_is _, lastsW_is _, lastsW_is _, lastsW_is _, lastsW_is _, lastsW_is _, lastsW_is _, lastsW_is _, lastsW_is _, lastsW_is _, lastsW_is _, lastsW_is _, lastsW_is _, lastsW_is _, lastsW_is _, lastsW_is _, lastsW_is _, lastsW_is _, lastsW_is _, trivial⟩ ⟨?_, ?_, ?_, ?_, ?_, ?_, ?_, ?_, ?_, ?_, ?_, ?_, ?_, ?_, ?_, ?_, ?_, ?_, ?_, ?_, ?_⟩
  · intro L a wy Q' hL hi H F hK
    try dsimp only at hi
    have h0 : a.tmps[0]? = some (.pointer (some ⟨tb, 0, none⟩)) := F 0 rfl
    have HI := Lib.hid hi
    clear H F hi hL
    go_wp2_with fail
    exact hK _ _ (Below.refl _ _) HI.out rfl
  · intro L a wy Q' hL hi H F hK
    try dsimp only at hi
    obtain ⟨_, h24, rfl⟩ := H 0 ⟨.data, by simp, rfl⟩ _ rfl
    replace h24 := h24 _ rfl
    have HI := Lib.hid hi
    clear H F hi hL
    go_wp2_with fail
    exact hK _ _ (Below.refl _ _) HI.out rfl
  · intro L a wy Q' hL hi H F hK
    try dsimp only at hi
    obtain ⟨_, h25, rfl⟩ := H 1 ⟨.data, by simp, rfl⟩ _ rfl
    replace h25 := h25 _ rfl
    have HI := Lib.hid hi
    clear H F hi hL
    go_wp2_with fail
    exact hK _ _ (Below.refl _ _) HI.out rfl
  · intro L a wy Q' hL hi H F hK
    try dsimp only at hi
    obtain ⟨_, h26, rfl⟩ := H 2 ⟨.data, by simp, rfl⟩ _ rfl
    replace h26 := h26 _ rfl
    have HI := Lib.hid hi
    clear H F hi hL
    have kq0 : wy.cell? ⟨tb, 1, none⟩ = some (.pointer (some ⟨ss, 0, none⟩)) := (Whole.under HI.out HT.out (Whole.lt HT.out)).cell 1
    go_wp2_with fail
    exact hK _ _ (Below.refl _ _) HI.out rfl
  · intro L a wy Q' hL hi H F hK
    try dsimp only at hi
    have h3 : a.tmps[3]? = some (.pointer (some ⟨kb, 0, none⟩)) := F 3 rfl
    have HI := Lib.hid hi
    clear H F hi hL
    go_wp2_with fail
    exact hK _ _ (Below.refl _ _) HI.out rfl
  · intro L a wy Q' hL hi H F hK
    try dsimp only at hi
    obtain ⟨_, h28, rfl⟩ := H 4 ⟨.data, by simp, rfl⟩ _ rfl
    replace h28 := h28 _ rfl
    have HI := Lib.hid hi
    clear H F hi hL
    have kq0 : wy.cell? ⟨kb, 0, none⟩ = some (.int .i64 k.src) := (Whole.under HI.out HK.out (Whole.lt HK.out)).cell 0
    go_wp2_with fail
    exact hK _ _ (Below.refl _ _) HI.out rfl
  · intro L a wy Q' hL hi H F hK
    try dsimp only at hi
    have h3 : a.tmps[3]? = some (.pointer (some ⟨kb, 0, none⟩)) := F 3 rfl
    have HI := Lib.hid hi
    clear H F hi hL
    go_wp2_with fail
    exact hK _ _ (Below.refl _ _) HI.out rfl
  · intro L a wy Q' hL hi H F hK
    try dsimp only at hi
    obtain ⟨_, h30, rfl⟩ := H 6 ⟨.data, by simp, rfl⟩ _ rfl
    replace h30 := h30 _ rfl
    have HI := Lib.hid hi
    clear H F hi hL
    have kq0 : wy.cell? ⟨kb, 1, none⟩ = some (.int .i64 k.tgt) := (Whole.under HI.out HK.out (Whole.lt HK.out)).cell 1
    go_wp2_with fail
    exact hK _ _ (Below.refl _ _) HI.out rfl
  · intro L a wy Q' hL hi H F hK
    try dsimp only at hi
    have h3 : a.tmps[3]? = some (.pointer (some ⟨kb, 0, none⟩)) := F 3 rfl
    have HI := Lib.hid hi
    clear H F hi hL
    go_wp2_with fail
    exact hK _ _ (Below.refl _ _) HI.out rfl
  · intro L a wy Q' hL hi H F hK
    try dsimp only at hi
    obtain ⟨_, h32, rfl⟩ := H 8 ⟨.data, by simp, rfl⟩ _ rfl
    replace h32 := h32 _ rfl
    have HI := Lib.hid hi
    clear H F hi hL
    have kq0 : wy.cell? ⟨kb, 2, none⟩ = some (.int .i64 k.cls) := (Whole.under HI.out HK.out (Whole.lt HK.out)).cell 2
    go_wp2_with fail
    exact hK _ _ (Below.refl _ _) HI.out rfl
  · intro L a wy Q' hL hi H F hK
    try dsimp only at hi
    obtain ⟨_, h29, rfl⟩ := H 5 ⟨.data, by simp, rfl⟩ _ rfl
    replace h29 := h29 _ rfl
    obtain ⟨_, h31, rfl⟩ := H 7 ⟨.data, by simp, rfl⟩ _ rfl
    replace h31 := h31 _ rfl
    obtain ⟨_, h33, rfl⟩ := H 9 ⟨.data, by simp, rfl⟩ _ rfl
    replace h33 := h33 _ rfl
    have HI := Lib.hid hi
    clear H F hi hL
    go_wp2_with fail
    exact hK _ _ (Below.refl _ _) HI.out rfl
  · intro L a wy Q' hL hi H F hK
    try dsimp only at hi
    have h0 : a.tmps[0]? = some (.pointer (some ⟨tb, 0, none⟩)) := F 0 rfl
    have HI := Lib.hid hi
    clear H F hi hL
    go_wp2_with fail
    exact hK _ _ (Below.refl _ _) HI.out rfl
  · intro L a wy Q' hL hi H F hK
    try dsimp only at hi
    obtain ⟨_, h35, rfl⟩ := H 11 ⟨.data, by simp, rfl⟩ _ rfl
    replace h35 := h35 _ rfl
    have HI := Lib.hid hi
    clear H F hi hL
    go_wp2_with fail
    exact hK _ _ (Below.refl _ _) HI.out rfl
  · intro L a wy Q' hL hi H F hK
    try dsimp only at hi
    obtain ⟨_, h36, rfl⟩ := H 12 ⟨.data, by simp, rfl⟩ _ rfl
    replace h36 := h36 _ rfl
    have HI := Lib.hid hi
    clear H F hi hL
    go_wp2_with fail
    exact hK _ _ (Below.refl _ _) HI.out rfl
  · intro L a wy Q' hL hi H F hK
    try dsimp only at hi
    obtain ⟨_, h37, rfl⟩ := H 13 ⟨.data, by simp, rfl⟩ _ rfl
    replace h37 := h37 _ rfl
    have HI := Lib.hid hi
    clear H F hi hL
    have kq0 : wy.cell? ⟨tb, 0, none⟩ = some (.pointer (some ⟨sa, 0, none⟩)) := (Whole.under HI.out HT.out (Whole.lt HT.out)).cell 0
    go_wp2_with fail
    exact hK _ _ (Below.refl _ _) HI.out rfl
  · intro L a wy Q' hL hi H F hK
    try dsimp only at hi
    obtain ⟨_, h38, rfl⟩ := H 14 ⟨.data, by simp, rfl⟩ _ rfl
    replace h38 := h38 _ rfl
    have HI := Lib.hid hi
    clear H F hi hL
    go_wp2_with fail
    exact hK _ _ (Below.refl _ _) HI.out rfl
  · intro L a wy Q' hL hi H F hK
    try dsimp only at hi
    obtain ⟨_, h39, rfl⟩ := H 15 ⟨.data, by simp, rfl⟩ _ rfl
    replace h39 := h39 _ rfl
    have HI := Lib.hid hi
    clear H F hi hL
    go_wp2_with fail
    exact hK _ _ (Below.refl _ _) HI.out rfl
  · intro L a wy Q' hL hi H F hK
    try dsimp only at hi
    obtain ⟨_, h40, rfl⟩ := H 16 ⟨.data, by simp, rfl⟩ _ rfl
    replace h40 := h40 _ rfl
    have HI := Lib.hid hi
    clear H F hi hL
    have kq0 : wy.cell? ⟨sa, 0, none⟩ = some (.map (some mb)) := (Whole.under HI.out HS.out (Whole.lt HS.out)).cell 0
    go_wp2_with fail
    exact hK _ _ (Below.refl _ _) HI.out rfl
  · intro L a wy Q' hL hi H F hK
    try dsimp only at hi
    have h3 : a.tmps[3]? = some (.pointer (some ⟨kb, 0, none⟩)) := F 3 rfl
    have HI := Lib.hid hi
    clear H F hi hL
    have kq0 : wy.cell? ⟨kb, 0, none⟩ = some (.int .i64 k.src) := (Whole.under HI.out HK.out (Whole.lt HK.out)).cell 0
    have kq1 : wy.cell? ⟨kb, 1, none⟩ = some (.int .i64 k.tgt) := (Whole.under HI.out HK.out (Whole.lt HK.out)).cell 1
    have kq2 : wy.cell? ⟨kb, 2, none⟩ = some (.int .i64 k.cls) := (Whole.under HI.out HK.out (Whole.lt HK.out)).cell 2
    have kq3 : wy.cell? ⟨kb, 3, none⟩ = some (.int .i64 k.cond) := (Whole.under HI.out HK.out (Whole.lt HK.out)).cell 3
    go_wp2_with fail
    exact hK _ _ (Below.refl _ _) HI.out rfl
  · intro L a wy Q' hL hi H F hK
    try dsimp only at hi
    obtain ⟨_, h41, rfl⟩ := H 17 ⟨.data, by simp, rfl⟩ _ rfl
    replace h41 := h41 _ rfl
    obtain ⟨_, h42, rfl⟩ := H 18 ⟨.data, by simp, rfl⟩ _ rfl
    replace h42 := h42 _ rfl
    have HI := Lib.hid hi
    clear H F hi hL
    have q := HL.out wy HI.out
    go_wp2_with fail
    exact hK _ _ (Below.refl _ _) HI.out rfl
  · intro a wy L hl hi hL Q' hK
    try dsimp only at hi
    have HB := Lib.hid hi
    clear hi hL
    obtain ⟨_, rfl, _, rfl, _, rfl, _, rfl, _, rfl, _, rfl, _, rfl, _, rfl, _, rfl, _, rfl, _, rfl, _, rfl, _, rfl, _, rfl, _, rfl, _, rfl, _, rfl, _, rfl, _, rfl, _, rfl, rfl⟩ := hl
    simp only [List.setIfInBounds_toArray, List.set_cons_zero, List.set_cons_succ]
    go_wp2_with (go_at_call 26; go_must (refine (HC.out wy HB.out).mono ?_; rintro e w9 ⟨rfl, h9⟩; have HP9 := Lib.hid h9; clear h9))
    exact HEND.out _ _ _ _ _ _ _ _ _ _ _ _ _ _ _ _ _ _ _ _ _ wy w9 ⟨HB.out, HP9.out⟩
end Go.Proofs.Ytlkkdpoliafjbaa
