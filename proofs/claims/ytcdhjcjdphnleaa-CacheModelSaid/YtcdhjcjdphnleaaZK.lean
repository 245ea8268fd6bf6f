import Derived.Test.YtcdhjcjdphnleaaZJ
/-
  step; agree; First.
-/
namespace Go.Proofs.Ytcdhjcjdphnleaa
open Go Go.WideMaps Go.RowKit

theorem step_any (Y : Nat → Prop) (w w0 : World) (B cb : Nat) (s : St) (o : Opn) (kv dv : Value) (h : Many (XR kv dv Y) B w0 w [(cb, s)]) (hr : RefAt w kv dv s) (hc : s.Cnt 1000000) (hk : o.Wf) :
    Calls Try.prog 13 #[.pointer (some ⟨cb, 0, none⟩), .agg #[.int .i64 s.size, .int .i64 s.seq, kv, dv, .int .i64 s.h, .int .i64 s.m, .int .i64 s.e, .int .i64 s.r], .agg #[.int .u8 o.kind, .int .i64 o.src, .int .i64 o.tgt, .int .i64 o.cls, .int .u32 o.allowed, .int .i64 o.seq]] w fun e w' => ∃ kv' dv', e = .returned (.tuple #[.agg #[.int .i64 (s.play o).size, .int .i64 (s.play o).seq, kv', dv', .int .i64 (s.play o).h, .int .i64 (s.play o).m, .int .i64 (s.play o).e, .int .i64 (s.play o).r], .bool true]) ∧ Many (XR kv' dv' Y) B w0 w' [(cb, s.play o)] ∧ RefAt w' kv' dv' (s.play o) ∧ Fresh w.heap.size w' kv dv kv' dv' ∧ Aft Y w w' := by
  unfold St.play
  by_cases h0 : o.kind % 3 = 0
  · simp only [if_pos h0]; exact step_find Y w w0 B cb s o kv dv h hr hc hk h0
  · simp only [if_neg h0]
    by_cases h1 : o.kind % 3 = 1
    · simp only [if_pos h1]; exact step_insert Y w w0 B cb s o kv dv h hr hc hk h1
    · simp only [if_neg h1]; exact step_reset Y w w0 B cb s o kv dv h hr hc hk (by omega)

set_option maxHeartbeats 2000000 in
theorem same_slices (w : World) (v v' : Value) (ks : List Key) (h : SliceAt w v 3 ks.length (flat ks)) (h' : SliceAt w v' 3 ks.length (flat ks)) : Calls Try.prog 25 #[v, v'] w fun e w' => e = .returned (.bool true) ∧ Below w.heap.size w w' := by
  obtain ⟨a, c, rfl, hac, hmx, HA⟩ := h.form (by decide)
  obtain ⟨a', c', rfl, hac', -, HA'⟩ := h'.form (by decide)
  have H1 := Lib.hid HA
  have H2 := Lib.hid HA'
  clear HA HA' h h'
  go_enter Try.func25, Try.ntmps25
  go_wp2
  go_loopw [5] (fun i wr => ∃ n : Nat, n ≤ ks.length ∧ i = .int .i64 n ∧ Below w.heap.size w wr) (fun i _ => ks.length - (intOf i).toNat)
  case atStart => exact ⟨0, Nat.zero_le _, rfl, Below.refl _ _⟩
  case round =>
    obtain ⟨n, hn, rfl, hb⟩ := hrel
    have HB := Lib.hid hb
    clear hb
    by_cases hlt : n < ks.length
    · obtain ⟨b, off, rfl, hc⟩ := H1.out n hlt
      obtain ⟨b', off', rfl, hc'⟩ := H2.out n hlt
      obtain ⟨y, hy⟩ : ∃ y, ks[n]? = some y := ⟨_, List.getElem?_eq_getElem hlt⟩
      have key : ∀ j, j < 3 → (flat ks)[n * 3 + j]? = y.cells[j]? := fun j hj => flat_at (f := Key.cells) cells_len hy j hj
      have c0 : wr.cell? ⟨b, off + n * 3, none⟩ = some (.int .i64 y.a) := cell_later HB.out (hc 0 _ (key 0 (by omega)))
      have c1 : wr.cell? ⟨b, off + n * 3 + 1, none⟩ = some (.int .i64 y.b) := cell_later HB.out (hc 1 _ (key 1 (by omega)))
      have c2 : wr.cell? ⟨b, off + n * 3 + 2, none⟩ = some (.int .i64 y.c) := cell_later HB.out (hc 2 _ (key 2 (by omega)))
      have d0 : wr.cell? ⟨b', off' + n * 3, none⟩ = some (.int .i64 y.a) := cell_later HB.out (hc' 0 _ (key 0 (by omega)))
      have d1 : wr.cell? ⟨b', off' + n * 3 + 1, none⟩ = some (.int .i64 y.b) := cell_later HB.out (hc' 1 _ (key 1 (by omega)))
      have d2 : wr.cell? ⟨b', off' + n * 3 + 2, none⟩ = some (.int .i64 y.c) := cell_later HB.out (hc' 2 _ (key 2 (by omega)))
      have q : ∀ W : World, (Op.equalIn 10000 41 (.agg #[.int .i64 y.a, .int .i64 y.b, .int .i64 y.c]) (.agg #[.int .i64 y.a, .int .i64 y.b, .int .i64 y.c])).run Try.prog W = .ok true W := fun W => by rw [eq_key]; simp
      clear hc hc' key hy
      go_wp2
      go_quiet (fail)
      go_wp2
      go_roundw
      case rel => exact ⟨n + 1, by omega, by go_num, below_drewN HB.out _⟩
      case measure => simp [intOf]; omega
    · obtain rfl : n = ks.length := by omega
      go_wp2
      go_ret
      exact ⟨rfl, HB.out⟩


set_option maxHeartbeats 8000000 in
theorem agree_any (X : Nat → Prop) (w w0 : World) (B cb : Nat) (s : St) (kv dv : Value) (h : Many X B w0 w [(cb, s)]) (hr : RefAt w kv dv s) :
    Calls Try.prog 14 #[.pointer (some ⟨cb, 0, none⟩), .agg #[.int .i64 s.size, .int .i64 s.seq, kv, dv, .int .i64 s.h, .int .i64 s.m, .int .i64 s.e, .int .i64 s.r]] w fun e w' => e = .returned (.bool true) ∧ Below w.heap.size w w' := by
  obtain ⟨ka, km, kc, rfl⟩ := own_shape hr.keys
  obtain ⟨da, dm, dc, rfl⟩ := own_shape hr.decs
  obtain ⟨wo, hwo⟩ : ∃ wo, wo = w.alloc (.cells #[.int .i64 s.size, .int .i64 s.seq, .slice ka km kc, .slice da dm dc, .int .i64 s.h, .int .i64 s.m, .int .i64 s.e, .int .i64 s.r] 29) := ⟨_, rfl⟩
  have HS0 := Lib.hid (show Whole wo w.heap.size 29 #[.int .i64 s.size, .int .i64 s.seq, .slice ka km kc, .slice da dm dc, .int .i64 s.h, .int .i64 s.m, .int .i64 s.e, .int .i64 s.r] by rw [hwo]; exact Whole.new w 29 _)
  have HBO := Lib.hid (show Below w.heap.size w wo by rw [hwo]; exact (Below.refl _ w).alloc (Nat.le_refl _) _)
  have HM0 := Lib.hid (h.under HBO.out)
  have HRF := Lib.hid (hr.under HBO.out)
  clear h hr
  go_enter Try.func14, Try.ntmps14
  go_upto_region 1 with (fail)
  rw [← hwo]
  clear hwo
  go_wp2_with (first | (go_at_call 18; go_must (refine (stats_m 0 HM0.out rfl).mono ?_; rintro e w2 ⟨rfl, hm2, hb2⟩; have HM2 := Lib.hid hm2; have HB2 := Lib.hid hb2; have HS2 := Lib.hid (Whole.under hb2 HS0.out HS0.out.lt); have HRF2 := Lib.hid (show RefAt w2 _ _ s from ⟨HRF.out.keys.keep hb2, HRF.out.decs.keep hb2⟩); clear hm2 hb2 HM0 HS0)) | (refine wpList_load_row rfl 29 _ rfl (w.heap.size) rfl 29 _ (0, 0) _ (HS2.out) Try.underlying29 rfl size29 ?_) | (go_at_call 30; go_must (refine (refStats_any w2 s _ _).mono ?_; rintro e w3 ⟨rfl, hb3⟩; have HB3 := Lib.hid (HBO.out.trans ((HB2.out.trans (hb3.mono HB2.out.size)).mono HBO.out.size)); have HM3 := Lib.hid (HM2.out.under hb3); have HS3 := Lib.hid (Whole.under hb3 HS2.out HS2.out.lt); have HRF3 := Lib.hid (show RefAt w3 _ _ s from ⟨HRF2.out.keys.keep hb3, HRF2.out.decs.keep hb3⟩); clear hb3 HM2 HS2 HRF2)))
  refine wp_region_last (fun w w' => Below w.heap.size w w') [some 27, some 28, some 29, some 30, some 31, some 32, some 33, some 34, some 35, some 36, some 37, some 38, some 39, some 40, some 41, some 42, some 43, some 44, some 45, some 46, some 47, some 48, some 49, some 50, some 51, some 52, some 53, some 54, some 55, some 56, some 57, some 58, some 59, some 60, some 61, some 62, some 63, some 64, some 65] [isV (.int .i64 s.h), isV (.int .i64 s.h), isV (.bool true), isV (.bool true), isV (.int .i64 s.m), isV (.int .i64 s.m), isV (.bool true), isV (.bool true), isV (.bool true), isV (.int .i64 s.e), isV (.int .i64 s.e), isV (.bool true), isV (.bool true), isV (.bool true), isV (.int .i64 s.r), isV (.int .i64 s.r), isV (.bool true), isV (.bool true), isV (.bool true), isV (.pointer (some ⟨cb, 0, none⟩)), isV (.int .i64 s.D.length), isV (.agg #[.int .i64 s.size, .int .i64 s.seq, .slice ka km kc, .slice da dm dc, .int .i64 s.h, .int .i64 s.m, .int .i64 s.e, .int .i64 s.r]), isV (.int .i64 s.D.length), isV (.bool true), isV (.bool true), isV (.bool true), isV (.pointer (some ⟨cb, 0, none⟩)), isV (.int .i64 s.seq), isV (.agg #[.int .i64 s.size, .int .i64 s.seq, .slice ka km kc, .slice da dm dc, .int .i64 s.h, .int .i64 s.m, .int .i64 s.e, .int .i64 s.r]), isV (.int .i64 s.seq), isV (.bool true), isV (.bool true), isV (.bool true), isV (.pointer (some ⟨cb, 0, none⟩)), fun u w' => SliceAt w' u 3 s.keys.length (flat s.keys), isV (.pointer (some ⟨w.heap.size, 2, none⟩)), isV (.slice ka km kc), isV (.bool true), isV (.bool true)] (fun _ w' => Below w3.heap.size w3 w') 39 (by kernel_rfl) (by kernel_rfl) (by kernel_rfl) rfl (by decide) rfl rfl ((Below.refl _ _).drew) ⟨lasts_is _, lasts_is _, lasts_is _, lasts_is _, lasts_is _, lasts_is _, lasts_is _, lasts_is _, lasts_is _, lasts_is _, lasts_is _, lasts_is _, lasts_is _, lasts_is _, lasts_is _, lasts_is _, lasts_is _, lasts_is _, lasts_is _, lasts_is _, lasts_is _, lasts_is _, lasts_is _, lasts_is _, lasts_is _, lasts_is _, lasts_is _, lasts_is _, lasts_is _, lasts_is _, lasts_is _, lasts_is _, lasts_is _, lasts_is _, (fun u wa wb h hb => SliceAt.keep h hb), lasts_is _, lasts_is _, lasts_is _, lasts_is _, trivial⟩ ⟨(fun _ => lastsR_is _), (fun _ => lastsR_is _), (fun _ => lastsR_is _), (fun _ => lastsR_is _), (fun _ => lastsR_is _), (fun _ => lastsR_is _), (fun _ => lastsR_is _), (fun _ => lastsR_is _), (fun _ => lastsR_is _), (fun _ => lastsR_is _), (fun _ => lastsR_is _), (fun _ => lastsR_is _), (fun _ => lastsR_is _), (fun _ => lastsR_is _), (fun _ => lastsR_is _), (fun _ => lastsR_is _), (fun _ => lastsR_is _), (fun _ => lastsR_is _), (fun _ => lastsR_is _), (fun _ => lastsR_is _), (fun _ => lastsR_is _), (fun _ => lastsR_is _), (fun _ => lastsR_is _), (fun _ => lastsR_is _), (fun _ => lastsR_is _), (fun _ => lastsR_is _), (fun _ => lastsR_is _), (fun _ => lastsR_is _), (fun _ => lastsR_is _), (fun _ => lastsR_is _), (fun _ => lastsR_is _), (fun _ => lastsR_is _), (fun _ => lastsR_is _), (fun _ => lastsR_is _), (fun _ => (fun u wa wb h hb => SliceAt.keep h hb)), (fun _ => lastsR_is _), (fun _ => lastsR_is _), (fun _ => lastsR_is _), (fun _ => lastsR_is _), trivial⟩ ⟨?_, ?_, ?_, ?_, ?_, ?_, ?_, ?_, ?_, ?_, ?_, ?_, ?_, ?_, ?_, ?_, ?_, ?_, ?_, ?_, ?_, ?_, ?_, ?_, ?_, ?_, ?_, ?_, ?_, ?_, ?_, ?_, ?_, ?_, ?_, ?_, ?_, ?_, ?_, ?_⟩
  · intro L a wx Q' hL hi H F hK
    try dsimp only at hi
    have h5 : a.tmps[5]? = some (.int .i64 s.h) := F 5 rfl
    have HI := Lib.hid hi
    clear H F hi hL
    go_wp2_with fail
    exact hK _ _ (Below.refl _ _) HI.out rfl
  · intro L a wx Q' hL hi H F hK
    try dsimp only at hi
    have h9 : a.tmps[9]? = some (.int .i64 s.h) := F 9 rfl
    have HI := Lib.hid hi
    clear H F hi hL
    go_wp2_with fail
    exact hK _ _ (Below.refl _ _) HI.out rfl
  · intro L a wx Q' hL hi H F hK
    try dsimp only at hi
    obtain ⟨_, h27, rfl⟩ := H 0 ⟨.data, by simp, rfl⟩ _ rfl
    replace h27 := h27 _ rfl
    obtain ⟨_, h28, rfl⟩ := H 1 ⟨.data, by simp, rfl⟩ _ rfl
    replace h28 := h28 _ rfl
    have HI := Lib.hid hi
    clear H F hi hL
    go_wp2_with fail
    exact hK _ _ (Below.refl _ _) HI.out rfl
  · intro L a wx Q' hL hi H F hK
    try dsimp only at hi
    obtain ⟨_, h29, rfl⟩ := H 2 ⟨.data, by simp, rfl⟩ _ rfl
    replace h29 := h29 _ rfl
    have HI := Lib.hid hi
    clear H F hi hL
    go_wp2_with fail
    exact hK _ _ (Below.refl _ _) HI.out rfl
  · intro L a wx Q' hL hi H F hK
    try dsimp only at hi
    obtain ⟨_, h30, rfl⟩ := H 3 ⟨.guard, by simp, rfl⟩ _ rfl
    replace h30 := h30 _ rfl
    have h6 : a.tmps[6]? = some (.int .i64 s.m) := F 6 rfl
    have HI := Lib.hid hi
    clear H F hi hL
    go_wp2_with fail
    exact hK _ _ (Below.refl _ _) HI.out rfl
  · intro L a wx Q' hL hi H F hK
    try dsimp only at hi
    obtain ⟨_, h30, rfl⟩ := H 3 ⟨.guard, by simp, rfl⟩ _ rfl
    replace h30 := h30 _ rfl
    have h10 : a.tmps[10]? = some (.int .i64 s.m) := F 10 rfl
    have HI := Lib.hid hi
    clear H F hi hL
    go_wp2_with fail
    exact hK _ _ (Below.refl _ _) HI.out rfl
  · intro L a wx Q' hL hi H F hK
    try dsimp only at hi
    obtain ⟨_, h31, rfl⟩ := H 4 ⟨.data, by simp, rfl⟩ _ rfl
    replace h31 := h31 _ rfl
    obtain ⟨_, h32, rfl⟩ := H 5 ⟨.data, by simp, rfl⟩ _ rfl
    replace h32 := h32 _ rfl
    obtain ⟨_, h30, rfl⟩ := H 3 ⟨.guard, by simp, rfl⟩ _ rfl
    replace h30 := h30 _ rfl
    have HI := Lib.hid hi
    clear H F hi hL
    go_wp2_with fail
    exact hK _ _ (Below.refl _ _) HI.out rfl
  · intro L a wx Q' hL hi H F hK
    try dsimp only at hi
    obtain ⟨_, h30, rfl⟩ := H 3 ⟨.data, by simp, rfl⟩ _ rfl
    replace h30 := h30 _ rfl
    obtain ⟨_, h33, rfl⟩ := H 6 ⟨.data, by simp, rfl⟩ _ rfl
    replace h33 := h33 _ rfl
    have HI := Lib.hid hi
    clear H F hi hL
    go_wp2_with fail
    exact hK _ _ (Below.refl _ _) HI.out rfl
  · intro L a wx Q' hL hi H F hK
    try dsimp only at hi
    obtain ⟨_, h34, rfl⟩ := H 7 ⟨.data, by simp, rfl⟩ _ rfl
    replace h34 := h34 _ rfl
    have HI := Lib.hid hi
    clear H F hi hL
    go_wp2_with fail
    exact hK _ _ (Below.refl _ _) HI.out rfl
  · intro L a wx Q' hL hi H F hK
    try dsimp only at hi
    obtain ⟨_, h35, rfl⟩ := H 8 ⟨.guard, by simp, rfl⟩ _ rfl
    replace h35 := h35 _ rfl
    have h7 : a.tmps[7]? = some (.int .i64 s.e) := F 7 rfl
    have HI := Lib.hid hi
    clear H F hi hL
    go_wp2_with fail
    exact hK _ _ (Below.refl _ _) HI.out rfl
  · intro L a wx Q' hL hi H F hK
    try dsimp only at hi
    obtain ⟨_, h35, rfl⟩ := H 8 ⟨.guard, by simp, rfl⟩ _ rfl
    replace h35 := h35 _ rfl
    have h11 : a.tmps[11]? = some (.int .i64 s.e) := F 11 rfl
    have HI := Lib.hid hi
    clear H F hi hL
    go_wp2_with fail
    exact hK _ _ (Below.refl _ _) HI.out rfl
  · intro L a wx Q' hL hi H F hK
    try dsimp only at hi
    obtain ⟨_, h36, rfl⟩ := H 9 ⟨.data, by simp, rfl⟩ _ rfl
    replace h36 := h36 _ rfl
    obtain ⟨_, h37, rfl⟩ := H 10 ⟨.data, by simp, rfl⟩ _ rfl
    replace h37 := h37 _ rfl
    obtain ⟨_, h35, rfl⟩ := H 8 ⟨.guard, by simp, rfl⟩ _ rfl
    replace h35 := h35 _ rfl
    have HI := Lib.hid hi
    clear H F hi hL
    go_wp2_with fail
    exact hK _ _ (Below.refl _ _) HI.out rfl
  · intro L a wx Q' hL hi H F hK
    try dsimp only at hi
    obtain ⟨_, h35, rfl⟩ := H 8 ⟨.data, by simp, rfl⟩ _ rfl
    replace h35 := h35 _ rfl
    obtain ⟨_, h38, rfl⟩ := H 11 ⟨.data, by simp, rfl⟩ _ rfl
    replace h38 := h38 _ rfl
    have HI := Lib.hid hi
    clear H F hi hL
    go_wp2_with fail
    exact hK _ _ (Below.refl _ _) HI.out rfl
  · intro L a wx Q' hL hi H F hK
    try dsimp only at hi
    obtain ⟨_, h39, rfl⟩ := H 12 ⟨.data, by simp, rfl⟩ _ rfl
    replace h39 := h39 _ rfl
    have HI := Lib.hid hi
    clear H F hi hL
    go_wp2_with fail
    exact hK _ _ (Below.refl _ _) HI.out rfl
  · intro L a wx Q' hL hi H F hK
    try dsimp only at hi
    obtain ⟨_, h40, rfl⟩ := H 13 ⟨.guard, by simp, rfl⟩ _ rfl
    replace h40 := h40 _ rfl
    have h8 : a.tmps[8]? = some (.int .i64 s.r) := F 8 rfl
    have HI := Lib.hid hi
    clear H F hi hL
    go_wp2_with fail
    exact hK _ _ (Below.refl _ _) HI.out rfl
  · intro L a wx Q' hL hi H F hK
    try dsimp only at hi
    obtain ⟨_, h40, rfl⟩ := H 13 ⟨.guard, by simp, rfl⟩ _ rfl
    replace h40 := h40 _ rfl
    have h12 : a.tmps[12]? = some (.int .i64 s.r) := F 12 rfl
    have HI := Lib.hid hi
    clear H F hi hL
    go_wp2_with fail
    exact hK _ _ (Below.refl _ _) HI.out rfl
  · intro L a wx Q' hL hi H F hK
    try dsimp only at hi
    obtain ⟨_, h41, rfl⟩ := H 14 ⟨.data, by simp, rfl⟩ _ rfl
    replace h41 := h41 _ rfl
    obtain ⟨_, h42, rfl⟩ := H 15 ⟨.data, by simp, rfl⟩ _ rfl
    replace h42 := h42 _ rfl
    obtain ⟨_, h40, rfl⟩ := H 13 ⟨.guard, by simp, rfl⟩ _ rfl
    replace h40 := h40 _ rfl
    have HI := Lib.hid hi
    clear H F hi hL
    go_wp2_with fail
    exact hK _ _ (Below.refl _ _) HI.out rfl
  · intro L a wx Q' hL hi H F hK
    try dsimp only at hi
    obtain ⟨_, h40, rfl⟩ := H 13 ⟨.data, by simp, rfl⟩ _ rfl
    replace h40 := h40 _ rfl
    obtain ⟨_, h43, rfl⟩ := H 16 ⟨.data, by simp, rfl⟩ _ rfl
    replace h43 := h43 _ rfl
    have HI := Lib.hid hi
    clear H F hi hL
    go_wp2_with fail
    exact hK _ _ (Below.refl _ _) HI.out rfl
  · intro L a wx Q' hL hi H F hK
    try dsimp only at hi
    obtain ⟨_, h44, rfl⟩ := H 17 ⟨.data, by simp, rfl⟩ _ rfl
    replace h44 := h44 _ rfl
    have HI := Lib.hid hi
    clear H F hi hL
    go_wp2_with fail
    exact hK _ _ (Below.refl _ _) HI.out rfl
  · intro L a wx Q' hL hi H F hK
    try dsimp only at hi
    obtain ⟨_, h45, rfl⟩ := H 18 ⟨.guard, by simp, rfl⟩ _ rfl
    replace h45 := h45 _ rfl
    have h0 : a.tmps[0]? = some (.pointer (some ⟨cb, 0, none⟩)) := F 0 rfl
    have HI := Lib.hid hi
    clear H F hi hL
    go_wp2_with fail
    exact hK _ _ (Below.refl _ _) HI.out rfl
  · intro L a wx Q' hL hi H F hK
    try dsimp only at hi
    obtain ⟨_, h46, rfl⟩ := H 19 ⟨.data, by simp, rfl⟩ _ rfl
    replace h46 := h46 _ rfl
    obtain ⟨_, h45, rfl⟩ := H 18 ⟨.guard, by simp, rfl⟩ _ rfl
    replace h45 := h45 _ rfl
    have HI := Lib.hid hi
    clear H F hi hL
    go_wp2_with (go_at_call 17; go_must (refine (len_m 0 (HM3.out.under HI.out) rfl).mono ?_; rintro e w1 ⟨rfl, rfl⟩))
    exact hK _ _ (Below.refl _ _) HI.out rfl
  · intro L a wx Q' hL hi H F hK
    try dsimp only at hi
    obtain ⟨_, h45, rfl⟩ := H 18 ⟨.guard, by simp, rfl⟩ _ rfl
    replace h45 := h45 _ rfl
    have h3 : a.tmps[3]? = some (.pointer (some ⟨w.heap.size, 0, none⟩)) := F 3 rfl
    have HI := Lib.hid hi
    clear H F hi hL
    have kq0 : wx.cell? ⟨w.heap.size, 0, none⟩ = some (.int .i64 s.size) := (Whole.under HI.out HS3.out (Whole.lt HS3.out)).cell 0
    have kq1 : wx.cell? ⟨w.heap.size, 1, none⟩ = some (.int .i64 s.seq) := (Whole.under HI.out HS3.out (Whole.lt HS3.out)).cell 1
    have kq2 : wx.cell? ⟨w.heap.size, 2, none⟩ = some (.slice ka km kc) := (Whole.under HI.out HS3.out (Whole.lt HS3.out)).cell 2
    have kq3 : wx.cell? ⟨w.heap.size, 3, none⟩ = some (.slice da dm dc) := (Whole.under HI.out HS3.out (Whole.lt HS3.out)).cell 3
    have kq4 : wx.cell? ⟨w.heap.size, 4, none⟩ = some (.int .i64 s.h) := (Whole.under HI.out HS3.out (Whole.lt HS3.out)).cell 4
    have kq5 : wx.cell? ⟨w.heap.size, 5, none⟩ = some (.int .i64 s.m) := (Whole.under HI.out HS3.out (Whole.lt HS3.out)).cell 5
    have kq6 : wx.cell? ⟨w.heap.size, 6, none⟩ = some (.int .i64 s.e) := (Whole.under HI.out HS3.out (Whole.lt HS3.out)).cell 6
    have kq7 : wx.cell? ⟨w.heap.size, 7, none⟩ = some (.int .i64 s.r) := (Whole.under HI.out HS3.out (Whole.lt HS3.out)).cell 7
    go_wp2_with fail
    exact hK _ _ (Below.refl _ _) HI.out rfl
  · intro L a wx Q' hL hi H F hK
    try dsimp only at hi
    obtain ⟨_, h48, rfl⟩ := H 21 ⟨.data, by simp, rfl⟩ _ rfl
    replace h48 := h48 _ rfl
    obtain ⟨_, h45, rfl⟩ := H 18 ⟨.guard, by simp, rfl⟩ _ rfl
    replace h45 := h45 _ rfl
    have HI := Lib.hid hi
    clear H F hi hL
    go_wp2_with (go_at_call 31; go_must (refine (refLen_any wx s _ _ ⟨HRF3.out.keys.keep HI.out, HRF3.out.decs.keep HI.out⟩).mono ?_; rintro e w1 ⟨rfl, hb1⟩))
    exact hK _ _ hb1 (HI.out.trans (hb1.mono HI.out.size)) rfl
  · intro L a wx Q' hL hi H F hK
    try dsimp only at hi
    obtain ⟨_, h47, rfl⟩ := H 20 ⟨.data, by simp, rfl⟩ _ rfl
    replace h47 := h47 _ rfl
    obtain ⟨_, h49, rfl⟩ := H 22 ⟨.data, by simp, rfl⟩ _ rfl
    replace h49 := h49 _ rfl
    obtain ⟨_, h45, rfl⟩ := H 18 ⟨.guard, by simp, rfl⟩ _ rfl
    replace h45 := h45 _ rfl
    have HI := Lib.hid hi
    clear H F hi hL
    go_wp2_with fail
    exact hK _ _ (Below.refl _ _) HI.out rfl
  · intro L a wx Q' hL hi H F hK
    try dsimp only at hi
    obtain ⟨_, h45, rfl⟩ := H 18 ⟨.data, by simp, rfl⟩ _ rfl
    replace h45 := h45 _ rfl
    obtain ⟨_, h50, rfl⟩ := H 23 ⟨.data, by simp, rfl⟩ _ rfl
    replace h50 := h50 _ rfl
    have HI := Lib.hid hi
    clear H F hi hL
    go_wp2_with fail
    exact hK _ _ (Below.refl _ _) HI.out rfl
  · intro L a wx Q' hL hi H F hK
    try dsimp only at hi
    obtain ⟨_, h51, rfl⟩ := H 24 ⟨.data, by simp, rfl⟩ _ rfl
    replace h51 := h51 _ rfl
    have HI := Lib.hid hi
    clear H F hi hL
    go_wp2_with fail
    exact hK _ _ (Below.refl _ _) HI.out rfl
  · intro L a wx Q' hL hi H F hK
    try dsimp only at hi
    obtain ⟨_, h52, rfl⟩ := H 25 ⟨.guard, by simp, rfl⟩ _ rfl
    replace h52 := h52 _ rfl
    have h0 : a.tmps[0]? = some (.pointer (some ⟨cb, 0, none⟩)) := F 0 rfl
    have HI := Lib.hid hi
    clear H F hi hL
    go_wp2_with fail
    exact hK _ _ (Below.refl _ _) HI.out rfl
  · intro L a wx Q' hL hi H F hK
    try dsimp only at hi
    obtain ⟨_, h53, rfl⟩ := H 26 ⟨.data, by simp, rfl⟩ _ rfl
    replace h53 := h53 _ rfl
    obtain ⟨_, h52, rfl⟩ := H 25 ⟨.guard, by simp, rfl⟩ _ rfl
    replace h52 := h52 _ rfl
    have HI := Lib.hid hi
    clear H F hi hL
    go_wp2_with (go_at_call 20; go_must (refine (seq_m 0 (HM3.out.under HI.out) rfl).mono ?_; rintro e w1 ⟨rfl, rfl⟩))
    exact hK _ _ (Below.refl _ _) HI.out rfl
  · intro L a wx Q' hL hi H F hK
    try dsimp only at hi
    obtain ⟨_, h52, rfl⟩ := H 25 ⟨.guard, by simp, rfl⟩ _ rfl
    replace h52 := h52 _ rfl
    have h3 : a.tmps[3]? = some (.pointer (some ⟨w.heap.size, 0, none⟩)) := F 3 rfl
    have HI := Lib.hid hi
    clear H F hi hL
    have kq0 : wx.cell? ⟨w.heap.size, 0, none⟩ = some (.int .i64 s.size) := (Whole.under HI.out HS3.out (Whole.lt HS3.out)).cell 0
    have kq1 : wx.cell? ⟨w.heap.size, 1, none⟩ = some (.int .i64 s.seq) := (Whole.under HI.out HS3.out (Whole.lt HS3.out)).cell 1
    have kq2 : wx.cell? ⟨w.heap.size, 2, none⟩ = some (.slice ka km kc) := (Whole.under HI.out HS3.out (Whole.lt HS3.out)).cell 2
    have kq3 : wx.cell? ⟨w.heap.size, 3, none⟩ = some (.slice da dm dc) := (Whole.under HI.out HS3.out (Whole.lt HS3.out)).cell 3
    have kq4 : wx.cell? ⟨w.heap.size, 4, none⟩ = some (.int .i64 s.h) := (Whole.under HI.out HS3.out (Whole.lt HS3.out)).cell 4
    have kq5 : wx.cell? ⟨w.heap.size, 5, none⟩ = some (.int .i64 s.m) := (Whole.under HI.out HS3.out (Whole.lt HS3.out)).cell 5
    have kq6 : wx.cell? ⟨w.heap.size, 6, none⟩ = some (.int .i64 s.e) := (Whole.under HI.out HS3.out (Whole.lt HS3.out)).cell 6
    have kq7 : wx.cell? ⟨w.heap.size, 7, none⟩ = some (.int .i64 s.r) := (Whole.under HI.out HS3.out (Whole.lt HS3.out)).cell 7
    go_wp2_with fail
    exact hK _ _ (Below.refl _ _) HI.out rfl
  · intro L a wx Q' hL hi H F hK
    try dsimp only at hi
    obtain ⟨_, h55, rfl⟩ := H 28 ⟨.data, by simp, rfl⟩ _ rfl
    replace h55 := h55 _ rfl
    obtain ⟨_, h52, rfl⟩ := H 25 ⟨.guard, by simp, rfl⟩ _ rfl
    replace h52 := h52 _ rfl
    have HI := Lib.hid hi
    clear H F hi hL
    go_wp2_with (go_at_call 32; go_must (refine (refSeq_any wx s _ _).mono ?_; rintro e w1 ⟨rfl, hb1⟩))
    exact hK _ _ hb1 (HI.out.trans (hb1.mono HI.out.size)) rfl
  · intro L a wx Q' hL hi H F hK
    try dsimp only at hi
    obtain ⟨_, h54, rfl⟩ := H 27 ⟨.data, by simp, rfl⟩ _ rfl
    replace h54 := h54 _ rfl
    obtain ⟨_, h56, rfl⟩ := H 29 ⟨.data, by simp, rfl⟩ _ rfl
    replace h56 := h56 _ rfl
    obtain ⟨_, h52, rfl⟩ := H 25 ⟨.guard, by simp, rfl⟩ _ rfl
    replace h52 := h52 _ rfl
    have HI := Lib.hid hi
    clear H F hi hL
    go_wp2_with fail
    exact hK _ _ (Below.refl _ _) HI.out rfl
  · intro L a wx Q' hL hi H F hK
    try dsimp only at hi
    obtain ⟨_, h52, rfl⟩ := H 25 ⟨.data, by simp, rfl⟩ _ rfl
    replace h52 := h52 _ rfl
    obtain ⟨_, h57, rfl⟩ := H 30 ⟨.data, by simp, rfl⟩ _ rfl
    replace h57 := h57 _ rfl
    have HI := Lib.hid hi
    clear H F hi hL
    go_wp2_with fail
    exact hK _ _ (Below.refl _ _) HI.out rfl
  · intro L a wx Q' hL hi H F hK
    try dsimp only at hi
    obtain ⟨_, h58, rfl⟩ := H 31 ⟨.data, by simp, rfl⟩ _ rfl
    replace h58 := h58 _ rfl
    have HI := Lib.hid hi
    clear H F hi hL
    go_wp2_with fail
    exact hK _ _ (Below.refl _ _) HI.out rfl
  · intro L a wx Q' hL hi H F hK
    try dsimp only at hi
    obtain ⟨_, h59, rfl⟩ := H 32 ⟨.guard, by simp, rfl⟩ _ rfl
    replace h59 := h59 _ rfl
    have h0 : a.tmps[0]? = some (.pointer (some ⟨cb, 0, none⟩)) := F 0 rfl
    have HI := Lib.hid hi
    clear H F hi hL
    go_wp2_with fail
    exact hK _ _ (Below.refl _ _) HI.out rfl
  · intro L a wx Q' hL hi H F hK
    try dsimp only at hi
    obtain ⟨_, h60, rfl⟩ := H 33 ⟨.data, by simp, rfl⟩ _ rfl
    replace h60 := h60 _ rfl
    obtain ⟨_, h59, rfl⟩ := H 32 ⟨.guard, by simp, rfl⟩ _ rfl
    replace h59 := h59 _ rfl
    have HI := Lib.hid hi
    clear H F hi hL
    go_wp2_with (go_at_call 16; go_must (refine (keys_m 0 (HM3.out.under HI.out) rfl).mono ?_; rintro e w1 ⟨v, rfl, hv, -, -, hb1⟩))
    exact hK _ _ hb1 (HI.out.trans (hb1.mono HI.out.size)) (keys_slice hv)
  · intro L a wx Q' hL hi H F hK
    try dsimp only at hi
    obtain ⟨_, h59, rfl⟩ := H 32 ⟨.guard, by simp, rfl⟩ _ rfl
    replace h59 := h59 _ rfl
    have h3 : a.tmps[3]? = some (.pointer (some ⟨w.heap.size, 0, none⟩)) := F 3 rfl
    have HI := Lib.hid hi
    clear H F hi hL
    go_wp2_with fail
    exact hK _ _ (Below.refl _ _) HI.out rfl
  · intro L a wx Q' hL hi H F hK
    try dsimp only at hi
    obtain ⟨_, h62, rfl⟩ := H 35 ⟨.data, by simp, rfl⟩ _ rfl
    replace h62 := h62 _ rfl
    obtain ⟨_, h59, rfl⟩ := H 32 ⟨.guard, by simp, rfl⟩ _ rfl
    replace h59 := h59 _ rfl
    have HI := Lib.hid hi
    clear H F hi hL
    have kq0 : wx.cell? ⟨w.heap.size, 2, none⟩ = some (.slice ka km kc) := (Whole.under HI.out HS3.out (Whole.lt HS3.out)).cell 2
    go_wp2_with fail
    exact hK _ _ (Below.refl _ _) HI.out rfl
  · intro L a wx Q' hL hi H F hK
    try dsimp only at hi
    obtain ⟨v61, h61, hv61⟩ := H 34 ⟨.data, by simp, rfl⟩ _ rfl
    replace h61 := h61 _ rfl
    have HV61 := Lib.hid hv61
    clear hv61
    obtain ⟨_, h63, rfl⟩ := H 36 ⟨.data, by simp, rfl⟩ _ rfl
    replace h63 := h63 _ rfl
    obtain ⟨_, h59, rfl⟩ := H 32 ⟨.guard, by simp, rfl⟩ _ rfl
    replace h59 := h59 _ rfl
    have HI := Lib.hid hi
    clear H F hi hL
    go_wp2_with (go_at_call 25; go_must (refine (same_slices wx _ _ s.keys HV61.out (by rw [keys_len]; exact HRF3.out.keys.keep HI.out)).mono ?_; rintro e w1 ⟨rfl, hb1⟩))
    exact hK _ _ hb1 (HI.out.trans (hb1.mono HI.out.size)) rfl
  · intro L a wx Q' hL hi H F hK
    try dsimp only at hi
    obtain ⟨_, h59, rfl⟩ := H 32 ⟨.data, by simp, rfl⟩ _ rfl
    replace h59 := h59 _ rfl
    obtain ⟨_, h64, rfl⟩ := H 37 ⟨.data, by simp, rfl⟩ _ rfl
    replace h64 := h64 _ rfl
    have HI := Lib.hid hi
    clear H F hi hL
    go_wp2_with fail
    exact hK _ _ (Below.refl _ _) HI.out rfl
  · intro a wx hl L hi hL Q' hK
    try dsimp only at hi
    have HB := Lib.hid hi
    clear hi hL
    obtain ⟨_, rfl, _, rfl, _, rfl, _, rfl, _, rfl, _, rfl, _, rfl, _, rfl, _, rfl, _, rfl, _, rfl, _, rfl, _, rfl, _, rfl, _, rfl, _, rfl, _, rfl, _, rfl, _, rfl, _, rfl, _, rfl, _, rfl, _, rfl, _, rfl, _, rfl, _, rfl, _, rfl, _, rfl, _, rfl, _, rfl, _, rfl, _, rfl, _, rfl, _, rfl, u61, hu61, _, rfl, _, rfl, _, rfl, _, rfl, rfl⟩ := hl
    have HU61 := Lib.hid hu61
    clear hu61
    simp only [List.setIfInBounds_toArray, List.set_cons_zero, List.set_cons_succ]
    go_wp2_with fail
    go_ret
    exact ⟨rfl, HB3.out.trans (HB.out.mono HB3.out.size)⟩

set_option maxHeartbeats 4000000 in
theorem first_lo (w : World) (n : Int) (h : n < 1) : Calls Try.prog 12 #[.int .i64 n] w fun e w' => e = .returned (.tuple #[.agg #[.int .i64 0, .int .i64 0, .slice none 0 0, .slice none 0 0, .int .i64 0, .int .i64 0, .int .i64 0, .int .i64 0], .bool false]) ∧ Below w.heap.size w w' := by
  go_enter Try.func12, Try.ntmps12
  go_wp2_with (refine wpList_store_blk rfl 29 _ _ rfl (w.heap.size) 0 (.agg #[.int .i64 0, .int .i64 0, .slice none 0 0, .slice none 0 0, .int .i64 0, .int .i64 0, .int .i64 0, .int .i64 0]) rfl rfl 29 _ (Whole.new w 29 _) (by simp [Value.cells]) size29 rfl ?_; intro w2 S2 W2; rw [splice_all _ _ (by rfl)] at W2; have HS2 := Lib.hid S2; have HW2 := Lib.hid (show Whole w2 w.heap.size 29 #[.int .i64 0, .int .i64 0, .slice none 0 0, .slice none 0 0, .int .i64 0, .int .i64 0, .int .i64 0, .int .i64 0] from W2); clear S2 W2)
  have e0 : w2.cell? ⟨w.heap.size, 0, none⟩ = some (.int .i64 0) := HW2.out.cell 0
  have e1 : w2.cell? ⟨w.heap.size, 1, none⟩ = some (.int .i64 0) := HW2.out.cell 1
  have e2 : w2.cell? ⟨w.heap.size, 2, none⟩ = some (.slice none 0 0) := HW2.out.cell 2
  have e3 : w2.cell? ⟨w.heap.size, 3, none⟩ = some (.slice none 0 0) := HW2.out.cell 3
  have e4 : w2.cell? ⟨w.heap.size, 4, none⟩ = some (.int .i64 0) := HW2.out.cell 4
  have e5 : w2.cell? ⟨w.heap.size, 5, none⟩ = some (.int .i64 0) := HW2.out.cell 5
  have e6 : w2.cell? ⟨w.heap.size, 6, none⟩ = some (.int .i64 0) := HW2.out.cell 6
  have e7 : w2.cell? ⟨w.heap.size, 7, none⟩ = some (.int .i64 0) := HW2.out.cell 7
  refine bodyPost_ret (v := .tuple #[.agg #[.int .i64 0, .int .i64 0, .slice none 0 0, .slice none 0 0, .int .i64 0, .int .i64 0, .int .i64 0, .int .i64 0], .bool false]) ?_ rfl ⟨rfl, ((Below.refl _ w).alloc (Nat.le_refl _) _).trans (HS2.out.below (Nat.le_refl _))⟩
  simp [results, Try.results12, go_sem, e0, e1, e2, e3, e4, e5, e6, e7]

set_option maxHeartbeats 4000000 in
theorem first_hi (w : World) (n : Int) (h0 : 1 ≤ n) (h : 1024 < n) : Calls Try.prog 12 #[.int .i64 n] w fun e w' => e = .returned (.tuple #[.agg #[.int .i64 0, .int .i64 0, .slice none 0 0, .slice none 0 0, .int .i64 0, .int .i64 0, .int .i64 0, .int .i64 0], .bool false]) ∧ Below w.heap.size w w' := by
  go_enter Try.func12, Try.ntmps12
  go_wp2_with (refine wpList_store_blk rfl 29 _ _ rfl (w.heap.size) 0 (.agg #[.int .i64 0, .int .i64 0, .slice none 0 0, .slice none 0 0, .int .i64 0, .int .i64 0, .int .i64 0, .int .i64 0]) rfl rfl 29 _ (Whole.new w 29 _) (by simp [Value.cells]) size29 rfl ?_; intro w2 S2 W2; rw [splice_all _ _ (by rfl)] at W2; have HS2 := Lib.hid S2; have HW2 := Lib.hid (show Whole w2 w.heap.size 29 #[.int .i64 0, .int .i64 0, .slice none 0 0, .slice none 0 0, .int .i64 0, .int .i64 0, .int .i64 0, .int .i64 0] from W2); clear S2 W2)
  have e0 : w2.cell? ⟨w.heap.size, 0, none⟩ = some (.int .i64 0) := HW2.out.cell 0
  have e1 : w2.cell? ⟨w.heap.size, 1, none⟩ = some (.int .i64 0) := HW2.out.cell 1
  have e2 : w2.cell? ⟨w.heap.size, 2, none⟩ = some (.slice none 0 0) := HW2.out.cell 2
  have e3 : w2.cell? ⟨w.heap.size, 3, none⟩ = some (.slice none 0 0) := HW2.out.cell 3
  have e4 : w2.cell? ⟨w.heap.size, 4, none⟩ = some (.int .i64 0) := HW2.out.cell 4
  have e5 : w2.cell? ⟨w.heap.size, 5, none⟩ = some (.int .i64 0) := HW2.out.cell 5
  have e6 : w2.cell? ⟨w.heap.size, 6, none⟩ = some (.int .i64 0) := HW2.out.cell 6
  have e7 : w2.cell? ⟨w.heap.size, 7, none⟩ = some (.int .i64 0) := HW2.out.cell 7
  refine bodyPost_ret (v := .tuple #[.agg #[.int .i64 0, .int .i64 0, .slice none 0 0, .slice none 0 0, .int .i64 0, .int .i64 0, .int .i64 0, .int .i64 0], .bool false]) ?_ rfl ⟨rfl, ((Below.refl _ w).alloc (Nat.le_refl _) _).trans (HS2.out.below (Nat.le_refl _))⟩
  simp [results, Try.results12, go_sem, e0, e1, e2, e3, e4, e5, e6, e7]

set_option maxHeartbeats 4000000 in
theorem first_yes (w : World) (n : Int) (h0 : 1 ≤ n) (h1 : n ≤ 1024) : Calls Try.prog 12 #[.int .i64 n] w fun e w' => e = .returned (.tuple #[.agg #[.int .i64 n, .int .i64 0, .slice none 0 0, .slice none 0 0, .int .i64 0, .int .i64 0, .int .i64 0, .int .i64 0], .bool true]) ∧ Below w.heap.size w w' := by
  go_enter Try.func12, Try.ntmps12
  go_wp2_with (refine wpList_store_blk rfl 29 _ _ rfl (w.heap.size) 0 (.agg #[.int .i64 n, .int .i64 0, .slice none 0 0, .slice none 0 0, .int .i64 0, .int .i64 0, .int .i64 0, .int .i64 0]) rfl rfl 29 _ (Whole.new w 29 _) (by simp [Value.cells]) size29 rfl ?_; intro w2 S2 W2; rw [splice_all _ _ (by rfl)] at W2; have HS2 := Lib.hid S2; have HW2 := Lib.hid (show Whole w2 w.heap.size 29 #[.int .i64 n, .int .i64 0, .slice none 0 0, .slice none 0 0, .int .i64 0, .int .i64 0, .int .i64 0, .int .i64 0] from W2); clear S2 W2)
  have e0 : w2.cell? ⟨w.heap.size, 0, none⟩ = some (.int .i64 n) := HW2.out.cell 0
  have e1 : w2.cell? ⟨w.heap.size, 1, none⟩ = some (.int .i64 0) := HW2.out.cell 1
  have e2 : w2.cell? ⟨w.heap.size, 2, none⟩ = some (.slice none 0 0) := HW2.out.cell 2
  have e3 : w2.cell? ⟨w.heap.size, 3, none⟩ = some (.slice none 0 0) := HW2.out.cell 3
  have e4 : w2.cell? ⟨w.heap.size, 4, none⟩ = some (.int .i64 0) := HW2.out.cell 4
  have e5 : w2.cell? ⟨w.heap.size, 5, none⟩ = some (.int .i64 0) := HW2.out.cell 5
  have e6 : w2.cell? ⟨w.heap.size, 6, none⟩ = some (.int .i64 0) := HW2.out.cell 6
  have e7 : w2.cell? ⟨w.heap.size, 7, none⟩ = some (.int .i64 0) := HW2.out.cell 7
  refine bodyPost_ret (v := .tuple #[.agg #[.int .i64 n, .int .i64 0, .slice none 0 0, .slice none 0 0, .int .i64 0, .int .i64 0, .int .i64 0, .int .i64 0], .bool true]) ?_ rfl ⟨rfl, ((Below.refl _ w).alloc (Nat.le_refl _) _).trans (HS2.out.below (Nat.le_refl _))⟩
  simp [results, Try.results12, go_sem, e0, e1, e2, e3, e4, e5, e6, e7]


end Go.Proofs.Ytcdhjcjdphnleaa
