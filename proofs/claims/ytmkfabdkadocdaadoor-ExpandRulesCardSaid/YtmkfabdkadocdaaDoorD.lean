import Derived.Test.YtmkfabdkadocdaaDoorC
import Derived.BigQuiet
/-
  bitset.Has, With; ref01.Has, bit, With.
-/
namespace Go.Proofs.YtmkfabdkadocdaaDoor
open Go Go.RowKit

theorem wrap_two {j : Nat} (h : j < 64) : IntKind.u64.wrap (2 ^ j) = ((2 ^ j : Nat) : Int) := by
  have h1 := two_lt h
  unfold U64 at h1
  rw [show (2 : Int) ^ j = ((2 ^ j : Nat) : Int) by simp, IntKind.wrap_u64]
  generalize 2 ^ j = y at h1 ⊢
  omega
theorem or_two {x j : Nat} (hx : U64 x) (h : j < 64) : bits .or .u64 (x : Int) ((2 : Int) ^ j) = ((x ||| 2 ^ j : Nat) : Int) := by
  rw [show (2 : Int) ^ j = ((2 ^ j : Nat) : Int) by simp]
  exact bits_or_u64_nat x (2 ^ j) hx (two_lt h)
theorem bit_any (w : World) (m : Nat) (hm : m < 256) : Calls Tryd.prog 48 #[.int .i64 m] w fun e w' => e = .returned (.int .u64 ((2 ^ (m % 64) : Nat) : Int)) ∧ w = w' := by
  go_enter Tryd.func48, Tryd.ntmps48
  go_wp2
  go_ret
  exact ⟨ret_int (wrap_two (Nat.mod_lt _ (by decide))), rfl⟩
theorem inside_lo (w : World) (n : Int) (hn : ¬ 0 ≤ n) : Calls Tryd.prog 47 #[.int .i64 n] w fun e w' => e = .returned (.bool false) ∧ w = w' := by
  go_enter Tryd.func47, Tryd.ntmps47
  go_wp2
  go_ret
  exact ⟨rfl, rfl⟩
theorem inside_hi (w : World) (n : Int) (h0 : 0 ≤ n) (hn : ¬ n < 256) : Calls Tryd.prog 47 #[.int .i64 n] w fun e w' => e = .returned (.bool false) ∧ w = w' := by
  go_enter Tryd.func47, Tryd.ntmps47
  go_wp2
  go_ret
  exact ⟨rfl, rfl⟩
theorem inside_yes (w : World) (n : Int) (h0 : 0 ≤ n) (hn : n < 256) : Calls Tryd.prog 47 #[.int .i64 n] w fun e w' => e = .returned (.bool true) ∧ w = w' := by
  go_enter Tryd.func47, Tryd.ntmps47
  go_wp2
  go_ret
  exact ⟨rfl, rfl⟩
theorem whole_two (w : World) (o : Obj) (cs : Array Value) (t : TypeId) : Whole ((w.alloc o).alloc (.cells cs t)) (w.heap.size + 1) t cs := by
  have := Whole.new (w.alloc o) t cs
  simpa using this
theorem splice_all (cs : Array Value) (l : List Value) (h : cs.size = l.length) : splice cs 0 l = l.toArray := by
  apply Array.toList_inj.1
  rw [splice_toList _ _ _ (by omega)]
  simp [List.drop_of_length_le (show cs.toList.length ≤ l.length by simp [h])]
theorem size22 : (Tryd.prog.info? 22).map (·.size) = some 1 := by kernel_rfl
theorem size24 : (Tryd.prog.info? 24).map (·.size) = some 4 := by kernel_rfl
theorem splice_set (s : ASet) {i : Nat} (hi : i < 4) (x : Nat) : (#[.int .u64 (s.put i x).a, .int .u64 (s.put i x).b, .int .u64 (s.put i x).c, .int .u64 (s.put i x).d] : Array Value) = splice #[.int .u64 s.a, .int .u64 s.b, .int .u64 s.c, .int .u64 s.d] i [.int .u64 (x : Int)] := by
  rcases four hi with rfl | rfl | rfl | rfl <;> rfl

set_option maxRecDepth 100000 in
set_option maxHeartbeats 2000000 in
theorem has_in (w : World) (s : ASet) (hs : s.Ok) (m : Nat) (hm : m < 256) :
    Calls Tryd.prog 46 #[.agg #[.int .u64 s.a, .int .u64 s.b, .int .u64 s.c, .int .u64 s.d], .int .i64 m] w fun e w' => e = .returned (.bool (s.mem m)) ∧ Below w.heap.size w w' := by
  have k := (Whole.new w 24 #[.int .u64 s.a, .int .u64 s.b, .int .u64 s.c, .int .u64 s.d]).cell (m / 64)
  rw [show (#[.int .u64 s.a, .int .u64 s.b, .int .u64 s.c, .int .u64 s.d] : Array Value)[m / 64]? = some (.int .u64 (s.word (m / 64))) by rw [← Array.getElem?_toList]; exact s.cell_at (by omega)] at k
  obtain ⟨x, hx⟩ : ∃ x, x = s.word (m / 64) := ⟨_, rfl⟩
  rw [← hx] at k
  have HX := Lib.hid hx
  have HUX := Lib.hid (show U64 x by rw [hx]; exact ASet.word_ok hs _)
  clear hx
  have h4 : m / 64 < 4 := by omega
  have hm' : (m : Int) < 256 := by omega
  have hmem : Hid (s.mem (m : Int) = x.testBit (m % 64)) := by
    unfold Hid ASet.mem ASet.has
    rw [HX.out]
    simp
    omega
  go_enter Tryd.func46, Tryd.ntmps46
  go_wp2
  go_ret
  exact ⟨ret_bool ((shr_bit HUX.out).trans hmem.out.symm), (Below.refl _ w).alloc (Nat.le_refl _) _⟩
set_option maxRecDepth 100000 in
set_option maxHeartbeats 2000000 in
theorem has_out0 (w : World) (s : ASet) (n : Int) (hn : n < 0) :
    Calls Tryd.prog 46 #[.agg #[.int .u64 s.a, .int .u64 s.b, .int .u64 s.c, .int .u64 s.d], .int .i64 n] w fun e w' => e = .returned (.bool false) ∧ Below w.heap.size w w' := by
  have hn1 : ¬ 0 ≤ n := by omega
  go_enter Tryd.func46, Tryd.ntmps46
  go_wp2
  go_ret
  exact ⟨rfl, (Below.refl _ w).alloc (Nat.le_refl _) _⟩
set_option maxRecDepth 100000 in
set_option maxHeartbeats 2000000 in
theorem has_out1 (w : World) (s : ASet) (n : Int) (hn : 256 ≤ n) :
    Calls Tryd.prog 46 #[.agg #[.int .u64 s.a, .int .u64 s.b, .int .u64 s.c, .int .u64 s.d], .int .i64 n] w fun e w' => e = .returned (.bool false) ∧ Below w.heap.size w w' := by
  have hn0 : 0 ≤ n := by omega
  have hn1 : ¬ n < 256 := by omega
  go_enter Tryd.func46, Tryd.ntmps46
  go_wp2
  go_ret
  exact ⟨rfl, (Below.refl _ w).alloc (Nat.le_refl _) _⟩
theorem has_any (w : World) (s : ASet) (hs : s.Ok) (n : Int) :
    Calls Tryd.prog 46 #[.agg #[.int .u64 s.a, .int .u64 s.b, .int .u64 s.c, .int .u64 s.d], .int .i64 n] w fun e w' => e = .returned (.bool (s.mem n)) ∧ Below w.heap.size w w' := by
  by_cases h : 0 ≤ n ∧ n < 256
  · obtain ⟨m, rfl⟩ : ∃ m : Nat, n = m := ⟨n.toNat, by omega⟩
    exact has_in w s hs m (by omega)
  · rw [show s.mem n = false by unfold ASet.mem; simp [h]]
    by_cases h0 : n < 0
    · exact has_out0 w s n h0
    · exact has_out1 w s n (by omega)

set_option maxRecDepth 100000 in
set_option maxHeartbeats 2000000 in
theorem rhas_in (w : World) (s : ASet) (hs : s.Ok) (m : Nat) (hm : m < 256) :
    Calls Tryd.prog 28 #[.agg #[.int .u64 s.a, .int .u64 s.b, .int .u64 s.c, .int .u64 s.d], .int .i64 m] w fun e w' => e = .returned (.bool (s.mem m)) ∧ Below w.heap.size w w' := by
  have k := (Whole.new w 24 #[.int .u64 s.a, .int .u64 s.b, .int .u64 s.c, .int .u64 s.d]).cell (m / 64)
  rw [show (#[.int .u64 s.a, .int .u64 s.b, .int .u64 s.c, .int .u64 s.d] : Array Value)[m / 64]? = some (.int .u64 (s.word (m / 64))) by rw [← Array.getElem?_toList]; exact s.cell_at (by omega)] at k
  obtain ⟨x, hx⟩ : ∃ x, x = s.word (m / 64) := ⟨_, rfl⟩
  rw [← hx] at k
  have HX := Lib.hid hx
  have HUX := Lib.hid (show U64 x by rw [hx]; exact ASet.word_ok hs _)
  clear hx
  have h4 : m / 64 < 4 := by omega
  have hm' : (m : Int) < 256 := by omega
  have hmem : Hid (s.mem (m : Int) = x.testBit (m % 64)) := by
    unfold Hid ASet.mem ASet.has
    rw [HX.out]
    simp
    omega
  obtain ⟨wo, hwo⟩ : ∃ wo, wo = w.alloc (.cells #[.int .u64 s.a, .int .u64 s.b, .int .u64 s.c, .int .u64 s.d] 24) := ⟨_, rfl⟩
  rw [← hwo] at k
  have HBO := Lib.hid (show Below w.heap.size w wo by rw [hwo]; exact (Below.refl _ w).alloc (Nat.le_refl _) _)
  go_enter Tryd.func28, Tryd.ntmps28
  go_wp2_with fail
  rw [← hwo]
  clear hwo
  refine wp_region_last (fun w w' => Below w.heap.size w w') [some 5, some 6, some 7, some 8, some 9, some 10, some 11, some 12, some 13, some 14, some 15, some 16, some 17, some 18, some 19, some 20] [isV (.int .i64 m), isV (.bool true), isV (.bool true), isV (.int .i64 m), isV (.bool true), isV (.bool true), isV (.bool true), isV (.int .i64 m), isV (.int .i64 ((m / 64 : Nat) : Int)), isV (.pointer (some ⟨w.heap.size, m / 64, none⟩)), isV (.int .u64 x), isV (.int .i64 m), isV (.int .u64 ((2 ^ (m % 64) : Nat) : Int)), isV (.int .u64 (bits .and .u64 (x : Int) ((2 ^ (m % 64) : Nat) : Int))), isV (.bool (bits .and .u64 (x : Int) ((2 ^ (m % 64) : Nat) : Int) != 0)), isV (.bool (bits .and .u64 (x : Int) ((2 ^ (m % 64) : Nat) : Int) != 0))] (fun _ w' => Below wo.heap.size wo w') 16 (by kernel_rfl) (by kernel_rfl) (by kernel_rfl) rfl (by decide) rfl rfl ((Below.refl _ _).drew) ⟨lasts_is _, lasts_is _, lasts_is _, lasts_is _, lasts_is _, lasts_is _, lasts_is _, lasts_is _, lasts_is _, lasts_is _, lasts_is _, lasts_is _, lasts_is _, lasts_is _, lasts_is _, lasts_is _, trivial⟩ ⟨(fun _ => lastsR_is _), (fun _ => lastsR_is _), (fun _ => lastsR_is _), (fun _ => lastsR_is _), (fun _ => lastsR_is _), (fun _ => lastsR_is _), (fun _ => lastsR_is _), (fun _ => lastsR_is _), (fun _ => lastsR_is _), (fun _ => lastsR_is _), (fun _ => lastsR_is _), (fun _ => lastsR_is _), (fun _ => lastsR_is _), (fun _ => lastsR_is _), (fun _ => lastsR_is _), (fun _ => lastsR_is _), trivial⟩ ⟨?_, ?_, ?_, ?_, ?_, ?_, ?_, ?_, ?_, ?_, ?_, ?_, ?_, ?_, ?_, ?_, ?_⟩
  · intro L a wx Q' hL hi H F hK
    try dsimp only at hi
    have h1 : a.tmps[1]? = some (.int .i64 m) := F 1 rfl
    have HI := Lib.hid hi
    clear H F hi hL
    go_wp2_with fail
    exact hK _ _ (Below.refl _ _) HI.out rfl
  · intro L a wx Q' hL hi H F hK
    try dsimp only at hi
    obtain ⟨_, h5, rfl⟩ := H 0 ⟨.data, by simp, rfl⟩ _ rfl
    replace h5 := h5 _ rfl
    have HI := Lib.hid hi
    clear H F hi hL
    go_wp2_with fail
    exact hK _ _ (Below.refl _ _) HI.out rfl
  · intro L a wx Q' hL hi H F hK
    try dsimp only at hi
    obtain ⟨_, h6, rfl⟩ := H 1 ⟨.data, by simp, rfl⟩ _ rfl
    replace h6 := h6 _ rfl
    have HI := Lib.hid hi
    clear H F hi hL
    go_wp2_with fail
    exact hK _ _ (Below.refl _ _) HI.out rfl
  · intro L a wx Q' hL hi H F hK
    try dsimp only at hi
    obtain ⟨_, h7, rfl⟩ := H 2 ⟨.guard, by simp, rfl⟩ _ rfl
    replace h7 := h7 _ rfl
    have h1 : a.tmps[1]? = some (.int .i64 m) := F 1 rfl
    have HI := Lib.hid hi
    clear H F hi hL
    go_wp2_with fail
    exact hK _ _ (Below.refl _ _) HI.out rfl
  · intro L a wx Q' hL hi H F hK
    try dsimp only at hi
    obtain ⟨_, h8, rfl⟩ := H 3 ⟨.data, by simp, rfl⟩ _ rfl
    replace h8 := h8 _ rfl
    obtain ⟨_, h7, rfl⟩ := H 2 ⟨.guard, by simp, rfl⟩ _ rfl
    replace h7 := h7 _ rfl
    have HI := Lib.hid hi
    clear H F hi hL
    go_wp2_with fail
    exact hK _ _ (Below.refl _ _) HI.out rfl
  · intro L a wx Q' hL hi H F hK
    try dsimp only at hi
    obtain ⟨_, h7, rfl⟩ := H 2 ⟨.data, by simp, rfl⟩ _ rfl
    replace h7 := h7 _ rfl
    obtain ⟨_, h9, rfl⟩ := H 4 ⟨.data, by simp, rfl⟩ _ rfl
    replace h9 := h9 _ rfl
    have HI := Lib.hid hi
    clear H F hi hL
    go_wp2_with fail
    exact hK _ _ (Below.refl _ _) HI.out rfl
  · intro L a wx Q' hL hi H F hK
    try dsimp only at hi
    obtain ⟨_, h10, rfl⟩ := H 5 ⟨.data, by simp, rfl⟩ _ rfl
    replace h10 := h10 _ rfl
    have HI := Lib.hid hi
    clear H F hi hL
    go_wp2_with fail
    exact hK _ _ (Below.refl _ _) HI.out rfl
  · intro L a wx Q' hL hi H F hK
    try dsimp only at hi
    obtain ⟨_, h11, rfl⟩ := H 6 ⟨.guard, by simp, rfl⟩ _ rfl
    replace h11 := h11 _ rfl
    have h1 : a.tmps[1]? = some (.int .i64 m) := F 1 rfl
    have HI := Lib.hid hi
    clear H F hi hL
    go_wp2_with fail
    exact hK _ _ (Below.refl _ _) HI.out rfl
  · intro L a wx Q' hL hi H F hK
    try dsimp only at hi
    obtain ⟨_, h12, rfl⟩ := H 7 ⟨.data, by simp, rfl⟩ _ rfl
    replace h12 := h12 _ rfl
    obtain ⟨_, h11, rfl⟩ := H 6 ⟨.guard, by simp, rfl⟩ _ rfl
    replace h11 := h11 _ rfl
    have HI := Lib.hid hi
    clear H F hi hL
    go_wp2_with fail
    exact hK _ _ (Below.refl _ _) HI.out rfl
  · intro L a wx Q' hL hi H F hK
    try dsimp only at hi
    obtain ⟨_, h13, rfl⟩ := H 8 ⟨.data, by simp, rfl⟩ _ rfl
    replace h13 := h13 _ rfl
    obtain ⟨_, h11, rfl⟩ := H 6 ⟨.guard, by simp, rfl⟩ _ rfl
    replace h11 := h11 _ rfl
    have h2 : a.tmps[2]? = some (.pointer (some ⟨w.heap.size, 0, none⟩)) := F 2 rfl
    have HI := Lib.hid hi
    clear H F hi hL
    go_wp2_with fail
    exact hK _ _ (Below.refl _ _) HI.out rfl
  · intro L a wx Q' hL hi H F hK
    try dsimp only at hi
    obtain ⟨_, h14, rfl⟩ := H 9 ⟨.data, by simp, rfl⟩ _ rfl
    replace h14 := h14 _ rfl
    obtain ⟨_, h11, rfl⟩ := H 6 ⟨.guard, by simp, rfl⟩ _ rfl
    replace h11 := h11 _ rfl
    have HI := Lib.hid hi
    clear H F hi hL
    have kk : wx.cell? ⟨w.heap.size, m / 64, none⟩ = some (.int .u64 x) := cell_later HI.out k
    go_wp2_with fail
    exact hK _ _ (Below.refl _ _) HI.out rfl
  · intro L a wx Q' hL hi H F hK
    try dsimp only at hi
    obtain ⟨_, h11, rfl⟩ := H 6 ⟨.guard, by simp, rfl⟩ _ rfl
    replace h11 := h11 _ rfl
    have h1 : a.tmps[1]? = some (.int .i64 m) := F 1 rfl
    have HI := Lib.hid hi
    clear H F hi hL
    go_wp2_with fail
    exact hK _ _ (Below.refl _ _) HI.out rfl
  · intro L a wx Q' hL hi H F hK
    try dsimp only at hi
    obtain ⟨_, h16, rfl⟩ := H 11 ⟨.data, by simp, rfl⟩ _ rfl
    replace h16 := h16 _ rfl
    obtain ⟨_, h11, rfl⟩ := H 6 ⟨.guard, by simp, rfl⟩ _ rfl
    replace h11 := h11 _ rfl
    have HI := Lib.hid hi
    clear H F hi hL
    go_wp2_with (go_at_call 48; go_must (refine (bit_any _ m hm).mono ?_; rintro e w1 ⟨rfl, rfl⟩))
    exact hK _ _ (Below.refl _ _) HI.out rfl
  · intro L a wx Q' hL hi H F hK
    try dsimp only at hi
    obtain ⟨_, h15, rfl⟩ := H 10 ⟨.data, by simp, rfl⟩ _ rfl
    replace h15 := h15 _ rfl
    obtain ⟨_, h17, rfl⟩ := H 12 ⟨.data, by simp, rfl⟩ _ rfl
    replace h17 := h17 _ rfl
    obtain ⟨_, h11, rfl⟩ := H 6 ⟨.guard, by simp, rfl⟩ _ rfl
    replace h11 := h11 _ rfl
    have HI := Lib.hid hi
    clear H F hi hL
    go_wp2_with fail
    exact hK _ _ (Below.refl _ _) HI.out rfl
  · intro L a wx Q' hL hi H F hK
    try dsimp only at hi
    obtain ⟨_, h18, rfl⟩ := H 13 ⟨.data, by simp, rfl⟩ _ rfl
    replace h18 := h18 _ rfl
    obtain ⟨_, h11, rfl⟩ := H 6 ⟨.guard, by simp, rfl⟩ _ rfl
    replace h11 := h11 _ rfl
    have HI := Lib.hid hi
    clear H F hi hL
    go_wp2_with fail
    exact hK _ _ (Below.refl _ _) HI.out rfl
  · intro L a wx Q' hL hi H F hK
    try dsimp only at hi
    obtain ⟨_, h11, rfl⟩ := H 6 ⟨.data, by simp, rfl⟩ _ rfl
    replace h11 := h11 _ rfl
    obtain ⟨_, h19, rfl⟩ := H 14 ⟨.data, by simp, rfl⟩ _ rfl
    replace h19 := h19 _ rfl
    have HI := Lib.hid hi
    clear H F hi hL
    go_wp2_with fail
    exact hK _ _ (Below.refl _ _) HI.out rfl
  · intro a wx hl L hi hL Q' hK
    try dsimp only at hi
    have HB := Lib.hid hi
    clear hi hL
    obtain ⟨_, rfl, _, rfl, _, rfl, _, rfl, _, rfl, _, rfl, _, rfl, _, rfl, _, rfl, _, rfl, _, rfl, _, rfl, _, rfl, _, rfl, _, rfl, _, rfl, rfl⟩ := hl
    simp only [List.setIfInBounds_toArray, List.set_cons_zero, List.set_cons_succ]
    go_wp2_with fail
    go_ret
    exact ⟨ret_bool ((and_two HUX.out (Nat.mod_lt _ (by decide))).trans hmem.out.symm), HBO.out.trans (HB.out.mono HBO.out.size)⟩

set_option maxRecDepth 100000 in
set_option maxHeartbeats 2000000 in
theorem rhas_out0 (w : World) (s : ASet) (n : Int) (hn : n < 0) :
    Calls Tryd.prog 28 #[.agg #[.int .u64 s.a, .int .u64 s.b, .int .u64 s.c, .int .u64 s.d], .int .i64 n] w fun e w' => e = .returned (.bool false) ∧ Below w.heap.size w w' := by
  obtain ⟨k, rfl⟩ : ∃ k : Nat, n = Int.negSucc k := ⟨(-n - 1).toNat, by omega⟩
  go_enter Tryd.func28, Tryd.ntmps28
  go_wp2
  go_quiet (fail)
  go_wp2
  go_ret
  exact ⟨rfl, below_drewN ((Below.refl _ w).alloc (Nat.le_refl _) _) _⟩
set_option maxRecDepth 100000 in
set_option maxHeartbeats 2000000 in
theorem rhas_out1 (w : World) (s : ASet) (n : Int) (hn : 256 ≤ n) :
    Calls Tryd.prog 28 #[.agg #[.int .u64 s.a, .int .u64 s.b, .int .u64 s.c, .int .u64 s.d], .int .i64 n] w fun e w' => e = .returned (.bool false) ∧ Below w.heap.size w w' := by
  obtain ⟨k, rfl⟩ : ∃ k : Nat, n = (k : Int) := ⟨n.toNat, by omega⟩
  have hd : ¬ (k : Int) < 256 := by omega
  have hd2 : decide ((k : Int) < 256) = false := by simp [hd]
  go_enter Tryd.func28, Tryd.ntmps28
  go_wp2
  go_quiet (fail)
  go_wp2
  go_ret
  exact ⟨rfl, below_drewN ((Below.refl _ w).alloc (Nat.le_refl _) _) _⟩
theorem rhas_any (w : World) (s : ASet) (hs : s.Ok) (n : Int) :
    Calls Tryd.prog 28 #[.agg #[.int .u64 s.a, .int .u64 s.b, .int .u64 s.c, .int .u64 s.d], .int .i64 n] w fun e w' => e = .returned (.bool (s.mem n)) ∧ Below w.heap.size w w' := by
  by_cases h : 0 ≤ n ∧ n < 256
  · obtain ⟨m, rfl⟩ : ∃ m : Nat, n = m := ⟨n.toNat, by omega⟩
    exact rhas_in w s hs m (by omega)
  · rw [show s.mem n = false by unfold ASet.mem; simp [h]]
    by_cases h0 : n < 0
    · exact rhas_out0 w s n h0
    · exact rhas_out1 w s n (by omega)

set_option maxRecDepth 100000 in
set_option maxHeartbeats 4000000 in
theorem with_in (w : World) (s : ASet) (hs : s.Ok) (m : Nat) (hm : m < 256) :
    Calls Tryd.prog 27 #[.agg #[.int .u64 s.a, .int .u64 s.b, .int .u64 s.c, .int .u64 s.d], .int .i64 m] w fun e w' => e = .returned (.agg #[.int .u64 (s.add m).a, .int .u64 (s.add m).b, .int .u64 (s.add m).c, .int .u64 (s.add m).d]) ∧ Below w.heap.size w w' := by
  obtain ⟨wo, hwo⟩ : ∃ wo, wo = (w.alloc (.cells #[.int .u64 s.a, .int .u64 s.b, .int .u64 s.c, .int .u64 s.d] 24)).alloc (.cells #[.int .u64 0, .int .u64 0, .int .u64 0, .int .u64 0] 24) := ⟨_, rfl⟩
  have HS0 := Lib.hid (show Whole wo w.heap.size 24 #[.int .u64 s.a, .int .u64 s.b, .int .u64 s.c, .int .u64 s.d] by rw [hwo]; exact (Whole.new w 24 #[.int .u64 s.a, .int .u64 s.b, .int .u64 s.c, .int .u64 s.d]).alloc _)
  have HR0 := Lib.hid (show Whole wo (w.heap.size + 1) 24 #[.int .u64 0, .int .u64 0, .int .u64 0, .int .u64 0] by rw [hwo]; exact whole_two w _ #[.int .u64 0, .int .u64 0, .int .u64 0, .int .u64 0] _)
  have HBO := Lib.hid (show Below w.heap.size w wo by rw [hwo]; exact ((Below.refl _ w).alloc (Nat.le_refl _) _).alloc (by simp) _)
  have k : wo.cell? ⟨w.heap.size, m / 64, none⟩ = some (.int .u64 (s.word (m / 64))) := by
    have h := HS0.out.cell (m / 64)
    rwa [show (#[.int .u64 s.a, .int .u64 s.b, .int .u64 s.c, .int .u64 s.d] : Array Value)[m / 64]? = some (.int .u64 (s.word (m / 64))) by rw [← Array.getElem?_toList]; exact s.cell_at (by omega)] at h
  obtain ⟨x, hx⟩ : ∃ x, x = s.word (m / 64) := ⟨_, rfl⟩
  rw [← hx] at k
  have HX := Lib.hid hx
  have HOX := Lib.hid (or_two (x := x) (j := m % 64) (by rw [hx]; exact ASet.word_ok hs _) (Nat.mod_lt _ (by decide)))
  have HOY := Lib.hid (bits_or_u64_nat x (2 ^ (m % 64)) (by rw [hx]; exact ASet.word_ok hs _) (two_lt (Nat.mod_lt _ (by decide))))
  have htw : IntKind.u64.wrap (2 ^ (m % 64)) = ((2 ^ (m % 64) : Nat) : Int) := wrap_two (Nat.mod_lt _ (by decide))
  clear hx
  have h4 : m / 64 < 4 := by omega
  have hm' : (m : Int) < 256 := by omega
  go_enter Tryd.func27, Tryd.ntmps27
  go_upto_region 1 with (fail)
  rw [← hwo]
  clear hwo
  go_wp2_with (go_at_call 47; go_must (refine (inside_yes _ (m : Int) (by omega) (by omega)).mono ?_; rintro e w' ⟨rfl, rfl⟩))
  refine wp_region_last (fun w w' => Below w.heap.size w w') [some 7, some 8, some 9, some 10, some 11, some 12, some 13, some 14, some 15] [isV (.int .i64 m), isV (.int .i64 ((m / 64 : Nat) : Int)), isV (.pointer (some ⟨w.heap.size, m / 64, none⟩)), isV (.int .u64 x), isV (.int .i64 m), isV (.int .i64 ((m % 64 : Nat) : Int)), isV (.int .u64 ((2 ^ (m % 64) : Nat) : Int)), isV (.int .u64 ((x ||| 2 ^ (m % 64) : Nat) : Int)), isV (.pointer (some ⟨w.heap.size, m / 64, none⟩))] (fun _ w' => Below wo.heap.size wo w') 9 (by kernel_rfl) (by kernel_rfl) (by kernel_rfl) rfl (by decide) rfl rfl ((Below.refl _ _).drew) ⟨lasts_is _, lasts_is _, lasts_is _, lasts_is _, lasts_is _, lasts_is _, lasts_is _, lasts_is _, lasts_is _, trivial⟩ ⟨(fun _ => lastsR_is _), (fun _ => lastsR_is _), (fun _ => lastsR_is _), (fun _ => lastsR_is _), (fun _ => lastsR_is _), (fun _ => lastsR_is _), (fun _ => lastsR_is _), (fun _ => lastsR_is _), (fun _ => lastsR_is _), trivial⟩ ⟨?_, ?_, ?_, ?_, ?_, ?_, ?_, ?_, ?_, ?_⟩
  · intro L a wx Q' hL hi H F hK
    try dsimp only at hi
    have h1 : a.tmps[1]? = some (.int .i64 m) := F 1 rfl
    have HI := Lib.hid hi
    clear H F hi hL
    go_wp2_with fail
    exact hK _ _ (Below.refl _ _) HI.out rfl
  · intro L a wx Q' hL hi H F hK
    try dsimp only at hi
    obtain ⟨_, h7, rfl⟩ := H 0 ⟨.data, by simp, rfl⟩ _ rfl
    replace h7 := h7 _ rfl
    have HI := Lib.hid hi
    clear H F hi hL
    go_wp2_with fail
    exact hK _ _ (Below.refl _ _) HI.out rfl
  · intro L a wx Q' hL hi H F hK
    try dsimp only at hi
    obtain ⟨_, h8, rfl⟩ := H 1 ⟨.data, by simp, rfl⟩ _ rfl
    replace h8 := h8 _ rfl
    have h2 : a.tmps[2]? = some (.pointer (some ⟨w.heap.size, 0, none⟩)) := F 2 rfl
    have HI := Lib.hid hi
    clear H F hi hL
    go_wp2_with fail
    exact hK _ _ (Below.refl _ _) HI.out rfl
  · intro L a wx Q' hL hi H F hK
    try dsimp only at hi
    obtain ⟨_, h9, rfl⟩ := H 2 ⟨.data, by simp, rfl⟩ _ rfl
    replace h9 := h9 _ rfl
    have HI := Lib.hid hi
    clear H F hi hL
    have kk : wx.cell? ⟨w.heap.size, m / 64, none⟩ = some (.int .u64 x) := cell_later HI.out k
    go_wp2_with fail
    exact hK _ _ (Below.refl _ _) HI.out rfl
  · intro L a wx Q' hL hi H F hK
    try dsimp only at hi
    have h1 : a.tmps[1]? = some (.int .i64 m) := F 1 rfl
    have HI := Lib.hid hi
    clear H F hi hL
    go_wp2_with fail
    exact hK _ _ (Below.refl _ _) HI.out rfl
  · intro L a wx Q' hL hi H F hK
    try dsimp only at hi
    obtain ⟨_, h11, rfl⟩ := H 4 ⟨.data, by simp, rfl⟩ _ rfl
    replace h11 := h11 _ rfl
    have HI := Lib.hid hi
    clear H F hi hL
    go_wp2_with fail
    exact hK _ _ (Below.refl _ _) HI.out rfl
  · intro L a wx Q' hL hi H F hK
    try dsimp only at hi
    obtain ⟨_, h12, rfl⟩ := H 5 ⟨.data, by simp, rfl⟩ _ rfl
    replace h12 := h12 _ rfl
    have HI := Lib.hid hi
    clear H F hi hL
    go_wp2_with fail
    exact hK _ _ (Below.refl _ _) HI.out rfl
  · intro L a wx Q' hL hi H F hK
    try dsimp only at hi
    obtain ⟨_, h10, rfl⟩ := H 3 ⟨.data, by simp, rfl⟩ _ rfl
    replace h10 := h10 _ rfl
    obtain ⟨_, h13, rfl⟩ := H 6 ⟨.data, by simp, rfl⟩ _ rfl
    replace h13 := h13 _ rfl
    have HI := Lib.hid hi
    clear H F hi hL
    go_wp2_with fail
    exact hK _ _ (Below.refl _ _) HI.out (by first | exact congrArg (Value.int IntKind.u64) HOX.out.symm | exact congrArg (Value.int IntKind.u64) HOY.out.symm)
  · intro L a wx Q' hL hi H F hK
    try dsimp only at hi
    obtain ⟨_, h8, rfl⟩ := H 1 ⟨.data, by simp, rfl⟩ _ rfl
    replace h8 := h8 _ rfl
    have h2 : a.tmps[2]? = some (.pointer (some ⟨w.heap.size, 0, none⟩)) := F 2 rfl
    have HI := Lib.hid hi
    clear H F hi hL
    go_wp2_with fail
    exact hK _ _ (Below.refl _ _) HI.out rfl
  · intro a wx hl L hi hL Q' hK
    try dsimp only at hi
    have HB := Lib.hid hi
    clear hi hL
    obtain ⟨_, rfl, _, rfl, _, rfl, _, rfl, _, rfl, _, rfl, _, rfl, _, rfl, _, rfl, rfl⟩ := hl
    simp only [List.setIfInBounds_toArray, List.set_cons_zero, List.set_cons_succ]
    have HSX := Lib.hid (Whole.under HB.out HS0.out HS0.out.lt)
    have HRX := Lib.hid (Whole.under HB.out HR0.out HR0.out.lt)
    clear HS0 HR0 k
    obtain ⟨t, ht⟩ : ∃ t, t = s.add m := ⟨_, rfl⟩
    have HT := Lib.hid ht
    clear ht
    go_wp2_with (first | (refine wpList_store_blk rfl 22 _ _ rfl (w.heap.size) (m / 64) (.int .u64 ((x ||| 2 ^ (m % 64) : Nat) : Int)) rfl rfl 24 _ HSX.out (by simp [Value.cells]; omega) size22 rfl ?_; intro w1 S1 W1; have HS1 := Lib.hid S1; have HW1 := Lib.hid (show Whole w1 w.heap.size 24 #[.int .u64 t.a, .int .u64 t.b, .int .u64 t.c, .int .u64 t.d] by rw [HT.out]; unfold ASet.add; rw [← HX.out]; rw [show #[.int .u64 (s.put (m / 64) (x ||| 2 ^ (m % 64))).a, .int .u64 (s.put (m / 64) (x ||| 2 ^ (m % 64))).b, .int .u64 (s.put (m / 64) (x ||| 2 ^ (m % 64))).c, .int .u64 (s.put (m / 64) (x ||| 2 ^ (m % 64))).d] = splice #[.int .u64 s.a, .int .u64 s.b, .int .u64 s.c, .int .u64 s.d] (m / 64) [.int .u64 ((x ||| 2 ^ (m % 64) : Nat) : Int)] from splice_set s (by omega) _]; exact W1); clear S1 W1) | (refine wpList_load_row rfl 24 _ rfl (w.heap.size) rfl 24 _ (0, 0) _ HW1.out Tryd.underlying24 rfl size24 ?_) | (refine wpList_store_blk rfl 24 _ _ rfl (w.heap.size + 1) 0 (.agg #[.int .u64 t.a, .int .u64 t.b, .int .u64 t.c, .int .u64 t.d]) rfl rfl 24 _ (HS1.out.whole HRX.out (by omega)) (by simp [Value.cells]) size24 rfl ?_; intro w2 S2 W2; rw [splice_all _ _ (by rfl)] at W2; have HS2 := Lib.hid S2; have HW2 := Lib.hid (show Whole w2 (w.heap.size + 1) 24 #[.int .u64 t.a, .int .u64 t.b, .int .u64 t.c, .int .u64 t.d] from W2); clear S2 W2))
    have e0 : w2.cell? ⟨w.heap.size + 1, 0, none⟩ = some (.int .u64 t.a) := HW2.out.cell 0
    have e1 : w2.cell? ⟨w.heap.size + 1, 1, none⟩ = some (.int .u64 t.b) := HW2.out.cell 1
    have e2 : w2.cell? ⟨w.heap.size + 1, 2, none⟩ = some (.int .u64 t.c) := HW2.out.cell 2
    have e3 : w2.cell? ⟨w.heap.size + 1, 3, none⟩ = some (.int .u64 t.d) := HW2.out.cell 3
    refine bodyPost_ret (v := .agg #[.int .u64 t.a, .int .u64 t.b, .int .u64 t.c, .int .u64 t.d]) ?_ rfl ⟨by rw [HT.out], ((HBO.out.trans (HB.out.mono HBO.out.size)).trans (HS1.out.below (Nat.le_refl _))).trans (HS2.out.below (by omega))⟩
    simp [results, Tryd.results27, go_sem, e0, e1, e2, e3]

set_option maxRecDepth 100000 in
set_option maxHeartbeats 2000000 in
theorem with_out0 (w : World) (s : ASet) (n : Int) (hn : n < 0) :
    Calls Tryd.prog 27 #[.agg #[.int .u64 s.a, .int .u64 s.b, .int .u64 s.c, .int .u64 s.d], .int .i64 n] w fun e w' => e = .returned (.agg #[.int .u64 s.a, .int .u64 s.b, .int .u64 s.c, .int .u64 s.d]) ∧ Below w.heap.size w w' := by
  have hn1 : ¬ 0 ≤ n := by omega
  obtain ⟨wo, hwo⟩ : ∃ wo, wo = (w.alloc (.cells #[.int .u64 s.a, .int .u64 s.b, .int .u64 s.c, .int .u64 s.d] 24)).alloc (.cells #[.int .u64 0, .int .u64 0, .int .u64 0, .int .u64 0] 24) := ⟨_, rfl⟩
  have HS0 := Lib.hid (show Whole wo w.heap.size 24 #[.int .u64 s.a, .int .u64 s.b, .int .u64 s.c, .int .u64 s.d] by rw [hwo]; exact (Whole.new w 24 #[.int .u64 s.a, .int .u64 s.b, .int .u64 s.c, .int .u64 s.d]).alloc _)
  have HR0 := Lib.hid (show Whole wo (w.heap.size + 1) 24 #[.int .u64 0, .int .u64 0, .int .u64 0, .int .u64 0] by rw [hwo]; exact whole_two w _ #[.int .u64 0, .int .u64 0, .int .u64 0, .int .u64 0] _)
  have HBO := Lib.hid (show Below w.heap.size w wo by rw [hwo]; exact ((Below.refl _ w).alloc (Nat.le_refl _) _).alloc (by simp) _)
  go_enter Tryd.func27, Tryd.ntmps27
  go_upto_region 1 with (fail)
  rw [← hwo]
  clear hwo
  go_wp2_with (first | (go_at_call 47; go_must (refine (inside_lo _ n hn1).mono ?_; rintro e w' ⟨rfl, rfl⟩)) | (refine wpList_load_row rfl 24 _ rfl (w.heap.size) rfl 24 _ (0, 0) _ (HS0.out) Tryd.underlying24 rfl size24 ?_) | (refine wpList_store_blk rfl 24 _ _ rfl (w.heap.size + 1) 0 (.agg #[.int .u64 s.a, .int .u64 s.b, .int .u64 s.c, .int .u64 s.d]) rfl rfl 24 _ HR0.out (by simp [Value.cells]) size24 rfl ?_; intro w2 S2 W2; rw [splice_all _ _ (by rfl)] at W2; have HS2 := Lib.hid S2; have HW2 := Lib.hid (show Whole w2 (w.heap.size + 1) 24 #[.int .u64 s.a, .int .u64 s.b, .int .u64 s.c, .int .u64 s.d] from W2); clear S2 W2))
  have e0 : w2.cell? ⟨w.heap.size + 1, 0, none⟩ = some (.int .u64 s.a) := HW2.out.cell 0
  have e1 : w2.cell? ⟨w.heap.size + 1, 1, none⟩ = some (.int .u64 s.b) := HW2.out.cell 1
  have e2 : w2.cell? ⟨w.heap.size + 1, 2, none⟩ = some (.int .u64 s.c) := HW2.out.cell 2
  have e3 : w2.cell? ⟨w.heap.size + 1, 3, none⟩ = some (.int .u64 s.d) := HW2.out.cell 3
  refine bodyPost_ret (v := .agg #[.int .u64 s.a, .int .u64 s.b, .int .u64 s.c, .int .u64 s.d]) ?_ rfl ⟨rfl, HBO.out.trans (HS2.out.below (by omega))⟩
  simp [results, Tryd.results27, go_sem, e0, e1, e2, e3]
set_option maxRecDepth 100000 in
set_option maxHeartbeats 2000000 in
theorem with_out1 (w : World) (s : ASet) (n : Int) (hn : 256 ≤ n) :
    Calls Tryd.prog 27 #[.agg #[.int .u64 s.a, .int .u64 s.b, .int .u64 s.c, .int .u64 s.d], .int .i64 n] w fun e w' => e = .returned (.agg #[.int .u64 s.a, .int .u64 s.b, .int .u64 s.c, .int .u64 s.d]) ∧ Below w.heap.size w w' := by
  have hn0 : 0 ≤ n := by omega
  have hn1 : ¬ n < 256 := by omega
  obtain ⟨wo, hwo⟩ : ∃ wo, wo = (w.alloc (.cells #[.int .u64 s.a, .int .u64 s.b, .int .u64 s.c, .int .u64 s.d] 24)).alloc (.cells #[.int .u64 0, .int .u64 0, .int .u64 0, .int .u64 0] 24) := ⟨_, rfl⟩
  have HS0 := Lib.hid (show Whole wo w.heap.size 24 #[.int .u64 s.a, .int .u64 s.b, .int .u64 s.c, .int .u64 s.d] by rw [hwo]; exact (Whole.new w 24 #[.int .u64 s.a, .int .u64 s.b, .int .u64 s.c, .int .u64 s.d]).alloc _)
  have HR0 := Lib.hid (show Whole wo (w.heap.size + 1) 24 #[.int .u64 0, .int .u64 0, .int .u64 0, .int .u64 0] by rw [hwo]; exact whole_two w _ #[.int .u64 0, .int .u64 0, .int .u64 0, .int .u64 0] _)
  have HBO := Lib.hid (show Below w.heap.size w wo by rw [hwo]; exact ((Below.refl _ w).alloc (Nat.le_refl _) _).alloc (by simp) _)
  go_enter Tryd.func27, Tryd.ntmps27
  go_upto_region 1 with (fail)
  rw [← hwo]
  clear hwo
  go_wp2_with (first | (go_at_call 47; go_must (refine (inside_hi _ n hn0 hn1).mono ?_; rintro e w' ⟨rfl, rfl⟩)) | (refine wpList_load_row rfl 24 _ rfl (w.heap.size) rfl 24 _ (0, 0) _ (HS0.out) Tryd.underlying24 rfl size24 ?_) | (refine wpList_store_blk rfl 24 _ _ rfl (w.heap.size + 1) 0 (.agg #[.int .u64 s.a, .int .u64 s.b, .int .u64 s.c, .int .u64 s.d]) rfl rfl 24 _ HR0.out (by simp [Value.cells]) size24 rfl ?_; intro w2 S2 W2; rw [splice_all _ _ (by rfl)] at W2; have HS2 := Lib.hid S2; have HW2 := Lib.hid (show Whole w2 (w.heap.size + 1) 24 #[.int .u64 s.a, .int .u64 s.b, .int .u64 s.c, .int .u64 s.d] from W2); clear S2 W2))
  have e0 : w2.cell? ⟨w.heap.size + 1, 0, none⟩ = some (.int .u64 s.a) := HW2.out.cell 0
  have e1 : w2.cell? ⟨w.heap.size + 1, 1, none⟩ = some (.int .u64 s.b) := HW2.out.cell 1
  have e2 : w2.cell? ⟨w.heap.size + 1, 2, none⟩ = some (.int .u64 s.c) := HW2.out.cell 2
  have e3 : w2.cell? ⟨w.heap.size + 1, 3, none⟩ = some (.int .u64 s.d) := HW2.out.cell 3
  refine bodyPost_ret (v := .agg #[.int .u64 s.a, .int .u64 s.b, .int .u64 s.c, .int .u64 s.d]) ?_ rfl ⟨rfl, HBO.out.trans (HS2.out.below (by omega))⟩
  simp [results, Tryd.results27, go_sem, e0, e1, e2, e3]
theorem with_any (w : World) (s : ASet) (hs : s.Ok) (n : Int) :
    Calls Tryd.prog 27 #[.agg #[.int .u64 s.a, .int .u64 s.b, .int .u64 s.c, .int .u64 s.d], .int .i64 n] w fun e w' => e = .returned (.agg #[.int .u64 (s.with n).a, .int .u64 (s.with n).b, .int .u64 (s.with n).c, .int .u64 (s.with n).d]) ∧ Below w.heap.size w w' := by
  unfold ASet.with
  by_cases h : 0 ≤ n ∧ n < 256
  · obtain ⟨m, rfl⟩ : ∃ m : Nat, n = m := ⟨n.toNat, by omega⟩
    rw [if_pos h]
    exact with_in w s hs m (by omega)
  · rw [if_neg h]
    by_cases h0 : n < 0
    · exact with_out0 w s n h0
    · exact with_out1 w s n (by omega)

set_option maxRecDepth 100000 in
set_option maxHeartbeats 4000000 in
theorem rwith_in (w : World) (s : ASet) (hs : s.Ok) (m : Nat) (hm : m < 256) :
    Calls Tryd.prog 44 #[.agg #[.int .u64 s.a, .int .u64 s.b, .int .u64 s.c, .int .u64 s.d], .int .i64 m] w fun e w' => e = .returned (.agg #[.int .u64 (s.add m).a, .int .u64 (s.add m).b, .int .u64 (s.add m).c, .int .u64 (s.add m).d]) ∧ Below w.heap.size w w' := by
  obtain ⟨wo, hwo⟩ : ∃ wo, wo = (w.alloc (.cells #[.int .u64 s.a, .int .u64 s.b, .int .u64 s.c, .int .u64 s.d] 24)).alloc (.cells #[.int .u64 0, .int .u64 0, .int .u64 0, .int .u64 0] 24) := ⟨_, rfl⟩
  have HS0 := Lib.hid (show Whole wo w.heap.size 24 #[.int .u64 s.a, .int .u64 s.b, .int .u64 s.c, .int .u64 s.d] by rw [hwo]; exact (Whole.new w 24 #[.int .u64 s.a, .int .u64 s.b, .int .u64 s.c, .int .u64 s.d]).alloc _)
  have HR0 := Lib.hid (show Whole wo (w.heap.size + 1) 24 #[.int .u64 0, .int .u64 0, .int .u64 0, .int .u64 0] by rw [hwo]; exact whole_two w _ #[.int .u64 0, .int .u64 0, .int .u64 0, .int .u64 0] _)
  have HBO := Lib.hid (show Below w.heap.size w wo by rw [hwo]; exact ((Below.refl _ w).alloc (Nat.le_refl _) _).alloc (by simp) _)
  have k : wo.cell? ⟨w.heap.size, m / 64, none⟩ = some (.int .u64 (s.word (m / 64))) := by
    have h := HS0.out.cell (m / 64)
    rwa [show (#[.int .u64 s.a, .int .u64 s.b, .int .u64 s.c, .int .u64 s.d] : Array Value)[m / 64]? = some (.int .u64 (s.word (m / 64))) by rw [← Array.getElem?_toList]; exact s.cell_at (by omega)] at h
  obtain ⟨x, hx⟩ : ∃ x, x = s.word (m / 64) := ⟨_, rfl⟩
  rw [← hx] at k
  have HX := Lib.hid hx
  have HOX := Lib.hid (or_two (x := x) (j := m % 64) (by rw [hx]; exact ASet.word_ok hs _) (Nat.mod_lt _ (by decide)))
  have HOY := Lib.hid (bits_or_u64_nat x (2 ^ (m % 64)) (by rw [hx]; exact ASet.word_ok hs _) (two_lt (Nat.mod_lt _ (by decide))))
  have htw : IntKind.u64.wrap (2 ^ (m % 64)) = ((2 ^ (m % 64) : Nat) : Int) := wrap_two (Nat.mod_lt _ (by decide))
  clear hx
  have h4 : m / 64 < 4 := by omega
  have hm' : (m : Int) < 256 := by omega
  go_enter Tryd.func44, Tryd.ntmps44
  go_upto_region 1 with (fail)
  rw [← hwo]
  clear hwo
  go_wp2_with (go_at_call 47; go_must (refine (inside_yes _ (m : Int) (by omega) (by omega)).mono ?_; rintro e w' ⟨rfl, rfl⟩))
  refine wp_region_last (fun w w' => Below w.heap.size w w') [some 11, some 12, some 13, some 14, some 15, some 16, some 17, some 18, some 19, some 20] [isV (.int .i64 m), isV (.int .i64 ((m / 64 : Nat) : Int)), isV (.int .i64 m), isV (.int .i64 ((m / 64 : Nat) : Int)), isV (.pointer (some ⟨w.heap.size, m / 64, none⟩)), isV (.int .u64 x), isV (.int .i64 m), isV (.int .u64 ((2 ^ (m % 64) : Nat) : Int)), isV (.int .u64 ((x ||| 2 ^ (m % 64) : Nat) : Int)), isV (.pointer (some ⟨w.heap.size, m / 64, none⟩))] (fun _ w' => Below wo.heap.size wo w') 10 (by kernel_rfl) (by kernel_rfl) (by kernel_rfl) rfl (by decide) rfl rfl ((Below.refl _ _).drew) ⟨lasts_is _, lasts_is _, lasts_is _, lasts_is _, lasts_is _, lasts_is _, lasts_is _, lasts_is _, lasts_is _, lasts_is _, trivial⟩ ⟨(fun _ => lastsR_is _), (fun _ => lastsR_is _), (fun _ => lastsR_is _), (fun _ => lastsR_is _), (fun _ => lastsR_is _), (fun _ => lastsR_is _), (fun _ => lastsR_is _), (fun _ => lastsR_is _), (fun _ => lastsR_is _), (fun _ => lastsR_is _), trivial⟩ ⟨?_, ?_, ?_, ?_, ?_, ?_, ?_, ?_, ?_, ?_, ?_⟩
  · intro L a wx Q' hL hi H F hK
    try dsimp only at hi
    have h1 : a.tmps[1]? = some (.int .i64 m) := F 1 rfl
    have HI := Lib.hid hi
    clear H F hi hL
    go_wp2_with fail
    exact hK _ _ (Below.refl _ _) HI.out rfl
  · intro L a wx Q' hL hi H F hK
    try dsimp only at hi
    obtain ⟨_, h11, rfl⟩ := H 0 ⟨.data, by simp, rfl⟩ _ rfl
    replace h11 := h11 _ rfl
    have HI := Lib.hid hi
    clear H F hi hL
    go_wp2_with fail
    exact hK _ _ (Below.refl _ _) HI.out rfl
  · intro L a wx Q' hL hi H F hK
    try dsimp only at hi
    have h1 : a.tmps[1]? = some (.int .i64 m) := F 1 rfl
    have HI := Lib.hid hi
    clear H F hi hL
    go_wp2_with fail
    exact hK _ _ (Below.refl _ _) HI.out rfl
  · intro L a wx Q' hL hi H F hK
    try dsimp only at hi
    obtain ⟨_, h13, rfl⟩ := H 2 ⟨.data, by simp, rfl⟩ _ rfl
    replace h13 := h13 _ rfl
    have HI := Lib.hid hi
    clear H F hi hL
    go_wp2_with fail
    exact hK _ _ (Below.refl _ _) HI.out rfl
  · intro L a wx Q' hL hi H F hK
    try dsimp only at hi
    obtain ⟨_, h14, rfl⟩ := H 3 ⟨.data, by simp, rfl⟩ _ rfl
    replace h14 := h14 _ rfl
    have h2 : a.tmps[2]? = some (.pointer (some ⟨w.heap.size, 0, none⟩)) := F 2 rfl
    have HI := Lib.hid hi
    clear H F hi hL
    go_wp2_with fail
    exact hK _ _ (Below.refl _ _) HI.out rfl
  · intro L a wx Q' hL hi H F hK
    try dsimp only at hi
    obtain ⟨_, h15, rfl⟩ := H 4 ⟨.data, by simp, rfl⟩ _ rfl
    replace h15 := h15 _ rfl
    have HI := Lib.hid hi
    clear H F hi hL
    have kk : wx.cell? ⟨w.heap.size, m / 64, none⟩ = some (.int .u64 x) := cell_later HI.out k
    go_wp2_with fail
    exact hK _ _ (Below.refl _ _) HI.out rfl
  · intro L a wx Q' hL hi H F hK
    try dsimp only at hi
    have h1 : a.tmps[1]? = some (.int .i64 m) := F 1 rfl
    have HI := Lib.hid hi
    clear H F hi hL
    go_wp2_with fail
    exact hK _ _ (Below.refl _ _) HI.out rfl
  · intro L a wx Q' hL hi H F hK
    try dsimp only at hi
    obtain ⟨_, h17, rfl⟩ := H 6 ⟨.data, by simp, rfl⟩ _ rfl
    replace h17 := h17 _ rfl
    have HI := Lib.hid hi
    clear H F hi hL
    go_wp2_with (go_at_call 48; go_must (refine (bit_any _ m hm).mono ?_; rintro e w1 ⟨rfl, rfl⟩))
    exact hK _ _ (Below.refl _ _) HI.out rfl
  · intro L a wx Q' hL hi H F hK
    try dsimp only at hi
    obtain ⟨_, h16, rfl⟩ := H 5 ⟨.data, by simp, rfl⟩ _ rfl
    replace h16 := h16 _ rfl
    obtain ⟨_, h18, rfl⟩ := H 7 ⟨.data, by simp, rfl⟩ _ rfl
    replace h18 := h18 _ rfl
    have HI := Lib.hid hi
    clear H F hi hL
    go_wp2_with fail
    exact hK _ _ (Below.refl _ _) HI.out (by first | exact congrArg (Value.int IntKind.u64) HOX.out.symm | exact congrArg (Value.int IntKind.u64) HOY.out.symm)
  · intro L a wx Q' hL hi H F hK
    try dsimp only at hi
    obtain ⟨_, h12, rfl⟩ := H 1 ⟨.data, by simp, rfl⟩ _ rfl
    replace h12 := h12 _ rfl
    have h2 : a.tmps[2]? = some (.pointer (some ⟨w.heap.size, 0, none⟩)) := F 2 rfl
    have HI := Lib.hid hi
    clear H F hi hL
    go_wp2_with fail
    exact hK _ _ (Below.refl _ _) HI.out rfl
  · intro a wx hl L hi hL Q' hK
    try dsimp only at hi
    have HB := Lib.hid hi
    clear hi hL
    obtain ⟨_, rfl, _, rfl, _, rfl, _, rfl, _, rfl, _, rfl, _, rfl, _, rfl, _, rfl, _, rfl, rfl⟩ := hl
    simp only [List.setIfInBounds_toArray, List.set_cons_zero, List.set_cons_succ]
    have HSX := Lib.hid (Whole.under HB.out HS0.out HS0.out.lt)
    have HRX := Lib.hid (Whole.under HB.out HR0.out HR0.out.lt)
    clear HS0 HR0 k
    obtain ⟨t, ht⟩ : ∃ t, t = s.add m := ⟨_, rfl⟩
    have HT := Lib.hid ht
    clear ht
    go_wp2_with (first | (refine wpList_store_blk rfl 22 _ _ rfl (w.heap.size) (m / 64) (.int .u64 ((x ||| 2 ^ (m % 64) : Nat) : Int)) rfl rfl 24 _ HSX.out (by simp [Value.cells]; omega) size22 rfl ?_; intro w1 S1 W1; have HS1 := Lib.hid S1; have HW1 := Lib.hid (show Whole w1 w.heap.size 24 #[.int .u64 t.a, .int .u64 t.b, .int .u64 t.c, .int .u64 t.d] by rw [HT.out]; unfold ASet.add; rw [← HX.out]; rw [show #[.int .u64 (s.put (m / 64) (x ||| 2 ^ (m % 64))).a, .int .u64 (s.put (m / 64) (x ||| 2 ^ (m % 64))).b, .int .u64 (s.put (m / 64) (x ||| 2 ^ (m % 64))).c, .int .u64 (s.put (m / 64) (x ||| 2 ^ (m % 64))).d] = splice #[.int .u64 s.a, .int .u64 s.b, .int .u64 s.c, .int .u64 s.d] (m / 64) [.int .u64 ((x ||| 2 ^ (m % 64) : Nat) : Int)] from splice_set s (by omega) _]; exact W1); clear S1 W1) | (refine wpList_load_row rfl 24 _ rfl (w.heap.size) rfl 24 _ (0, 0) _ HW1.out Tryd.underlying24 rfl size24 ?_) | (refine wpList_store_blk rfl 24 _ _ rfl (w.heap.size + 1) 0 (.agg #[.int .u64 t.a, .int .u64 t.b, .int .u64 t.c, .int .u64 t.d]) rfl rfl 24 _ (HS1.out.whole HRX.out (by omega)) (by simp [Value.cells]) size24 rfl ?_; intro w2 S2 W2; rw [splice_all _ _ (by rfl)] at W2; have HS2 := Lib.hid S2; have HW2 := Lib.hid (show Whole w2 (w.heap.size + 1) 24 #[.int .u64 t.a, .int .u64 t.b, .int .u64 t.c, .int .u64 t.d] from W2); clear S2 W2))
    have e0 : w2.cell? ⟨w.heap.size + 1, 0, none⟩ = some (.int .u64 t.a) := HW2.out.cell 0
    have e1 : w2.cell? ⟨w.heap.size + 1, 1, none⟩ = some (.int .u64 t.b) := HW2.out.cell 1
    have e2 : w2.cell? ⟨w.heap.size + 1, 2, none⟩ = some (.int .u64 t.c) := HW2.out.cell 2
    have e3 : w2.cell? ⟨w.heap.size + 1, 3, none⟩ = some (.int .u64 t.d) := HW2.out.cell 3
    refine bodyPost_ret (v := .agg #[.int .u64 t.a, .int .u64 t.b, .int .u64 t.c, .int .u64 t.d]) ?_ rfl ⟨by rw [HT.out], ((HBO.out.trans (HB.out.mono HBO.out.size)).trans (HS1.out.below (Nat.le_refl _))).trans (HS2.out.below (by omega))⟩
    simp [results, Tryd.results44, go_sem, e0, e1, e2, e3]

set_option maxRecDepth 100000 in
set_option maxHeartbeats 2000000 in
theorem rwith_out0 (w : World) (s : ASet) (n : Int) (hn : n < 0) :
    Calls Tryd.prog 44 #[.agg #[.int .u64 s.a, .int .u64 s.b, .int .u64 s.c, .int .u64 s.d], .int .i64 n] w fun e w' => e = .returned (.agg #[.int .u64 s.a, .int .u64 s.b, .int .u64 s.c, .int .u64 s.d]) ∧ Below w.heap.size w w' := by
  have hn1 : ¬ 0 ≤ n := by omega
  obtain ⟨wo, hwo⟩ : ∃ wo, wo = (w.alloc (.cells #[.int .u64 s.a, .int .u64 s.b, .int .u64 s.c, .int .u64 s.d] 24)).alloc (.cells #[.int .u64 0, .int .u64 0, .int .u64 0, .int .u64 0] 24) := ⟨_, rfl⟩
  have HS0 := Lib.hid (show Whole wo w.heap.size 24 #[.int .u64 s.a, .int .u64 s.b, .int .u64 s.c, .int .u64 s.d] by rw [hwo]; exact (Whole.new w 24 #[.int .u64 s.a, .int .u64 s.b, .int .u64 s.c, .int .u64 s.d]).alloc _)
  have HR0 := Lib.hid (show Whole wo (w.heap.size + 1) 24 #[.int .u64 0, .int .u64 0, .int .u64 0, .int .u64 0] by rw [hwo]; exact whole_two w _ #[.int .u64 0, .int .u64 0, .int .u64 0, .int .u64 0] _)
  have HBO := Lib.hid (show Below w.heap.size w wo by rw [hwo]; exact ((Below.refl _ w).alloc (Nat.le_refl _) _).alloc (by simp) _)
  go_enter Tryd.func44, Tryd.ntmps44
  go_upto_region 1 with (fail)
  rw [← hwo]
  clear hwo
  go_wp2_with (first | (go_at_call 47; go_must (refine (inside_lo _ n hn1).mono ?_; rintro e w' ⟨rfl, rfl⟩)) | (refine wpList_load_row rfl 24 _ rfl (w.heap.size) rfl 24 _ (0, 0) _ (HS0.out) Tryd.underlying24 rfl size24 ?_) | (refine wpList_store_blk rfl 24 _ _ rfl (w.heap.size + 1) 0 (.agg #[.int .u64 s.a, .int .u64 s.b, .int .u64 s.c, .int .u64 s.d]) rfl rfl 24 _ HR0.out (by simp [Value.cells]) size24 rfl ?_; intro w2 S2 W2; rw [splice_all _ _ (by rfl)] at W2; have HS2 := Lib.hid S2; have HW2 := Lib.hid (show Whole w2 (w.heap.size + 1) 24 #[.int .u64 s.a, .int .u64 s.b, .int .u64 s.c, .int .u64 s.d] from W2); clear S2 W2))
  have e0 : w2.cell? ⟨w.heap.size + 1, 0, none⟩ = some (.int .u64 s.a) := HW2.out.cell 0
  have e1 : w2.cell? ⟨w.heap.size + 1, 1, none⟩ = some (.int .u64 s.b) := HW2.out.cell 1
  have e2 : w2.cell? ⟨w.heap.size + 1, 2, none⟩ = some (.int .u64 s.c) := HW2.out.cell 2
  have e3 : w2.cell? ⟨w.heap.size + 1, 3, none⟩ = some (.int .u64 s.d) := HW2.out.cell 3
  refine bodyPost_ret (v := .agg #[.int .u64 s.a, .int .u64 s.b, .int .u64 s.c, .int .u64 s.d]) ?_ rfl ⟨rfl, HBO.out.trans (HS2.out.below (by omega))⟩
  simp [results, Tryd.results44, go_sem, e0, e1, e2, e3]
set_option maxRecDepth 100000 in
set_option maxHeartbeats 2000000 in
theorem rwith_out1 (w : World) (s : ASet) (n : Int) (hn : 256 ≤ n) :
    Calls Tryd.prog 44 #[.agg #[.int .u64 s.a, .int .u64 s.b, .int .u64 s.c, .int .u64 s.d], .int .i64 n] w fun e w' => e = .returned (.agg #[.int .u64 s.a, .int .u64 s.b, .int .u64 s.c, .int .u64 s.d]) ∧ Below w.heap.size w w' := by
  have hn0 : 0 ≤ n := by omega
  have hn1 : ¬ n < 256 := by omega
  obtain ⟨wo, hwo⟩ : ∃ wo, wo = (w.alloc (.cells #[.int .u64 s.a, .int .u64 s.b, .int .u64 s.c, .int .u64 s.d] 24)).alloc (.cells #[.int .u64 0, .int .u64 0, .int .u64 0, .int .u64 0] 24) := ⟨_, rfl⟩
  have HS0 := Lib.hid (show Whole wo w.heap.size 24 #[.int .u64 s.a, .int .u64 s.b, .int .u64 s.c, .int .u64 s.d] by rw [hwo]; exact (Whole.new w 24 #[.int .u64 s.a, .int .u64 s.b, .int .u64 s.c, .int .u64 s.d]).alloc _)
  have HR0 := Lib.hid (show Whole wo (w.heap.size + 1) 24 #[.int .u64 0, .int .u64 0, .int .u64 0, .int .u64 0] by rw [hwo]; exact whole_two w _ #[.int .u64 0, .int .u64 0, .int .u64 0, .int .u64 0] _)
  have HBO := Lib.hid (show Below w.heap.size w wo by rw [hwo]; exact ((Below.refl _ w).alloc (Nat.le_refl _) _).alloc (by simp) _)
  go_enter Tryd.func44, Tryd.ntmps44
  go_upto_region 1 with (fail)
  rw [← hwo]
  clear hwo
  go_wp2_with (first | (go_at_call 47; go_must (refine (inside_hi _ n hn0 hn1).mono ?_; rintro e w' ⟨rfl, rfl⟩)) | (refine wpList_load_row rfl 24 _ rfl (w.heap.size) rfl 24 _ (0, 0) _ (HS0.out) Tryd.underlying24 rfl size24 ?_) | (refine wpList_store_blk rfl 24 _ _ rfl (w.heap.size + 1) 0 (.agg #[.int .u64 s.a, .int .u64 s.b, .int .u64 s.c, .int .u64 s.d]) rfl rfl 24 _ HR0.out (by simp [Value.cells]) size24 rfl ?_; intro w2 S2 W2; rw [splice_all _ _ (by rfl)] at W2; have HS2 := Lib.hid S2; have HW2 := Lib.hid (show Whole w2 (w.heap.size + 1) 24 #[.int .u64 s.a, .int .u64 s.b, .int .u64 s.c, .int .u64 s.d] from W2); clear S2 W2))
  have e0 : w2.cell? ⟨w.heap.size + 1, 0, none⟩ = some (.int .u64 s.a) := HW2.out.cell 0
  have e1 : w2.cell? ⟨w.heap.size + 1, 1, none⟩ = some (.int .u64 s.b) := HW2.out.cell 1
  have e2 : w2.cell? ⟨w.heap.size + 1, 2, none⟩ = some (.int .u64 s.c) := HW2.out.cell 2
  have e3 : w2.cell? ⟨w.heap.size + 1, 3, none⟩ = some (.int .u64 s.d) := HW2.out.cell 3
  refine bodyPost_ret (v := .agg #[.int .u64 s.a, .int .u64 s.b, .int .u64 s.c, .int .u64 s.d]) ?_ rfl ⟨rfl, HBO.out.trans (HS2.out.below (by omega))⟩
  simp [results, Tryd.results44, go_sem, e0, e1, e2, e3]
theorem rwith_any (w : World) (s : ASet) (hs : s.Ok) (n : Int) :
    Calls Tryd.prog 44 #[.agg #[.int .u64 s.a, .int .u64 s.b, .int .u64 s.c, .int .u64 s.d], .int .i64 n] w fun e w' => e = .returned (.agg #[.int .u64 (s.with n).a, .int .u64 (s.with n).b, .int .u64 (s.with n).c, .int .u64 (s.with n).d]) ∧ Below w.heap.size w w' := by
  unfold ASet.with
  by_cases h : 0 ≤ n ∧ n < 256
  · obtain ⟨m, rfl⟩ : ∃ m : Nat, n = m := ⟨n.toNat, by omega⟩
    rw [if_pos h]
    exact rwith_in w s hs m (by omega)
  · rw [if_neg h]
    by_cases h0 : n < 0
    · exact rwith_out0 w s n h0
    · exact rwith_out1 w s n (by omega)

end Go.Proofs.YtmkfabdkadocdaaDoor
