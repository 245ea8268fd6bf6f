import Derived.Test.YtcdhjcjdphnleaaU
namespace Go.Proofs.Ytcdhjcjdphnleaa
open Go Go.WideMaps Go.RowKit

theorem size57 : (Try.prog.info? 57).map (·.size) = some 1 := by kernel_rfl
theorem size59 : (Try.prog.info? 59).map (·.size) = some 1 := by kernel_rfl
theorem mkmap (w : World) (t : TypeId) : (Instr.makeMap t none).run Try.prog w = .ok (.map (some w.heap.size)) (w.alloc (.map #[] 0)) := by simp [Instr.makeMap]

/-- The counters are within bounds. -/
structure St.Cnt (s : St) (n : Int) : Prop where
  h0 : 0 ≤ s.h
  m0 : 0 ≤ s.m
  e0 : 0 ≤ s.e
  r0 : 0 ≤ s.r
  h1 : s.h ≤ n
  m1 : s.m ≤ n
  e1 : s.e ≤ n
  r1 : s.r ≤ n

def St.reset (s : St) (n : Int) : St := { s with seq := n, D := [], r := s.r + 1 }

theorem reset_stale (w : World) (cb : Nat) (F : Nat → Prop) (s : St) (n : Int) (h : Cache w cb F s) (hn : n < s.seq) : Calls Try.prog 26 #[.pointer (some ⟨cb, 0, none⟩), .int .i64 n] w fun e w' => e = .returned (.int .i64 24) ∧ w = w' := by
  obtain ⟨mb, v, h⟩ := h
  have hlo := h.ok.lo
  have HC := Lib.hid h
  have HW := Lib.hid (show Whole w cb 62 #[.int .i64 s.size, .int .i64 s.seq, .map (some mb), v, .int .i64 s.h, .int .i64 s.m, .int .i64 s.e, .int .i64 s.r] from h.blk)
  have k1 : w.cell? ⟨cb, 1, none⟩ = some (.int .i64 s.seq) := HW.out.cell 1
  clear h
  go_enter Try.func26, Try.ntmps26
  go_wp2_with (go_at_call 33; go_must (refine (made_yes _ cb s.size _ _ _ _ _ _ _ HW.out (by omega)).mono ?_; rintro e w' ⟨rfl, rfl⟩))
  go_ret
  exact ⟨rfl, rfl⟩

set_option maxHeartbeats 2000000 in
theorem reset_yes (w : World) (cb : Nat) (F : Nat → Prop) (s : St) (n : Int) (h : Cache w cb F s) (hc : s.Cnt 1000000) (hn : s.seq ≤ n) : Calls Try.prog 26 #[.pointer (some ⟨cb, 0, none⟩), .int .i64 n] w fun e w' => e = .returned (.int .i64 0) ∧ Did w w' cb F (s.reset n) := by
  obtain ⟨mb, v, h⟩ := h
  have hlo := h.ok.lo
  have HC := Lib.hid h
  have HW := Lib.hid (show Whole w cb 62 #[.int .i64 s.size, .int .i64 s.seq, .map (some mb), v, .int .i64 s.h, .int .i64 s.m, .int .i64 s.e, .int .i64 s.r] from h.blk)
  have k1 : w.cell? ⟨cb, 1, none⟩ = some (.int .i64 s.seq) := HW.out.cell 1
  have hx0 := hc.r0
  have hx1 := hc.r1
  have hn' : ¬ n < s.seq := by omega
  clear h hn hc
  go_enter Try.func26, Try.ntmps26
  obtain ⟨wm, hwm⟩ : ∃ wm, wm = w.alloc (.map #[] 0) := ⟨_, rfl⟩
  have hmk : ∀ t, (Instr.makeMap t none).run Try.prog w = .ok (.map (some w.heap.size)) wm := fun t => by rw [hwm]; exact mkmap w t
  have HM := Lib.hid hwm
  have HWM := Lib.hid (show Whole wm cb 62 #[.int .i64 s.size, .int .i64 s.seq, .map (some mb), v, .int .i64 s.h, .int .i64 s.m, .int .i64 s.e, .int .i64 s.r] by rw [hwm]; exact HW.out.alloc _)
  have HMP := Lib.hid (show MapAt wm Try.prog 41 w.heap.size [] by rw [hwm]; exact MapAt.made w _ _)
  clear hwm
  go_wp2_with (first | (go_at_call 33; go_must (refine (made_yes _ cb s.size _ _ _ _ _ _ _ HW.out (by omega)).mono ?_; rintro e w' ⟨rfl, rfl⟩)) | (refine wpList_store_blk rfl 57 _ _ rfl cb 2 (.map (some w.heap.size)) rfl rfl 62 _ HWM.out (by simp [Value.cells]) size57 rfl ?_; intro w2 S2 W2; have HW2 := Lib.hid (show Whole w2 cb 62 #[.int .i64 s.size, .int .i64 s.seq, .map (some w.heap.size), v, .int .i64 s.h, .int .i64 s.m, .int .i64 s.e, .int .i64 s.r] from W2); have HS2 := Lib.hid S2; clear S2 W2) | (refine wpList_store_blk rfl 59 _ _ rfl cb 3 (.agg #[.slice none 0 0]) rfl rfl 62 _ HW2.out (by simp [Value.cells]) size59 rfl ?_; intro w3 S3 W3; have HW3 := Lib.hid (show Whole w3 cb 62 #[.int .i64 s.size, .int .i64 s.seq, .map (some w.heap.size), .slice none 0 0, .int .i64 s.h, .int .i64 s.m, .int .i64 s.e, .int .i64 s.r] from W3); have HS3 := Lib.hid S3; clear S3 W3) | (refine wpList_store_blk rfl 3 _ _ rfl cb 1 (.int .i64 n) rfl rfl 62 _ HW3.out (by simp [Value.cells]) size3 rfl ?_; intro w4 S4 W4; have HW4 := Lib.hid (show Whole w4 cb 62 #[.int .i64 s.size, .int .i64 n, .map (some w.heap.size), .slice none 0 0, .int .i64 s.h, .int .i64 s.m, .int .i64 s.e, .int .i64 s.r] from W4); have HS4 := Lib.hid S4; clear S4 W4))
  refine wp_region_last (fun w w' => Below w.heap.size w w') [some 28, some 29, some 30, some 31, some 32, some 33, some 34, some 35, some 36] [isV (.pointer (some ⟨cb, 0, none⟩)), isV (.pointer (some ⟨cb, 0, none⟩)), isV (.pointer (some ⟨cb, 4, none⟩)), isV (.pointer (some ⟨cb, 7, none⟩)), isV (.int .i64 s.r), isV (.int .i64 (s.r + 1)), isV (.pointer (some ⟨cb, 0, none⟩)), isV (.pointer (some ⟨cb, 4, none⟩)), isV (.pointer (some ⟨cb, 7, none⟩))] (fun _ w' => Below w4.heap.size w4 w') 9 (by kernel_rfl) (by kernel_rfl) (by kernel_rfl) rfl (by decide) rfl rfl ((Below.refl _ _).drew) ⟨lasts_is _, lasts_is _, lasts_is _, lasts_is _, lasts_is _, lasts_is _, lasts_is _, lasts_is _, lasts_is _, trivial⟩ ⟨(fun _ => lastsR_is _), (fun _ => lastsR_is _), (fun _ => lastsR_is _), (fun _ => lastsR_is _), (fun _ => lastsR_is _), (fun _ => lastsR_is _), (fun _ => lastsR_is _), (fun _ => lastsR_is _), (fun _ => lastsR_is _), trivial⟩ ⟨?_, ?_, ?_, ?_, ?_, ?_, ?_, ?_, ?_, ?_⟩
  · intro L a wy Q' hL hi H F hK
    try dsimp only at hi
    have h0 : a.tmps[0]? = some (.pointer (some ⟨cb, 0, none⟩)) := F 0 rfl
    have HI := Lib.hid hi
    clear H F hi hL
    go_wp2_with fail
    exact hK _ _ (Below.refl _ _) HI.out rfl
  · intro L a wy Q' hL hi H F hK
    try dsimp only at hi
    obtain ⟨_, h28, rfl⟩ := H 0 ⟨.data, by simp, rfl⟩ _ rfl
    replace h28 := h28 _ rfl
    have HI := Lib.hid hi
    clear H F hi hL
    go_wp2_with fail
    exact hK _ _ (Below.refl _ _) HI.out rfl
  · intro L a wy Q' hL hi H F hK
    try dsimp only at hi
    obtain ⟨_, h29, rfl⟩ := H 1 ⟨.data, by simp, rfl⟩ _ rfl
    replace h29 := h29 _ rfl
    have HI := Lib.hid hi
    clear H F hi hL
    go_wp2_with fail
    exact hK _ _ (Below.refl _ _) HI.out rfl
  · intro L a wy Q' hL hi H F hK
    try dsimp only at hi
    obtain ⟨_, h30, rfl⟩ := H 2 ⟨.data, by simp, rfl⟩ _ rfl
    replace h30 := h30 _ rfl
    have HI := Lib.hid hi
    clear H F hi hL
    go_wp2_with fail
    exact hK _ _ (Below.refl _ _) HI.out rfl
  · intro L a wy Q' hL hi H F hK
    try dsimp only at hi
    obtain ⟨_, h31, rfl⟩ := H 3 ⟨.data, by simp, rfl⟩ _ rfl
    replace h31 := h31 _ rfl
    have HI := Lib.hid hi
    clear H F hi hL
    have kq0 : wy.cell? ⟨cb, 7, none⟩ = some (.int .i64 s.r) := (Whole.under HI.out HW4.out (Whole.lt HW4.out)).cell 7
    go_wp2_with fail
    exact hK _ _ (Below.refl _ _) HI.out rfl
  · intro L a wy Q' hL hi H F hK
    try dsimp only at hi
    obtain ⟨_, h32, rfl⟩ := H 4 ⟨.data, by simp, rfl⟩ _ rfl
    replace h32 := h32 _ rfl
    have HI := Lib.hid hi
    clear H F hi hL
    go_wp2_with fail
    exact hK _ _ (Below.refl _ _) HI.out rfl
  · intro L a wy Q' hL hi H F hK
    try dsimp only at hi
    obtain ⟨_, h28, rfl⟩ := H 0 ⟨.data, by simp, rfl⟩ _ rfl
    replace h28 := h28 _ rfl
    have HI := Lib.hid hi
    clear H F hi hL
    go_wp2_with fail
    exact hK _ _ (Below.refl _ _) HI.out rfl
  · intro L a wy Q' hL hi H F hK
    try dsimp only at hi
    obtain ⟨_, h34, rfl⟩ := H 6 ⟨.data, by simp, rfl⟩ _ rfl
    replace h34 := h34 _ rfl
    have HI := Lib.hid hi
    clear H F hi hL
    go_wp2_with fail
    exact hK _ _ (Below.refl _ _) HI.out rfl
  · intro L a wy Q' hL hi H F hK
    try dsimp only at hi
    obtain ⟨_, h35, rfl⟩ := H 7 ⟨.data, by simp, rfl⟩ _ rfl
    replace h35 := h35 _ rfl
    have HI := Lib.hid hi
    clear H F hi hL
    go_wp2_with fail
    exact hK _ _ (Below.refl _ _) HI.out rfl
  · intro a wy hl L hi hL Q' hK
    try dsimp only at hi
    have HB := Lib.hid hi
    clear hi hL
    obtain ⟨_, rfl, _, rfl, _, rfl, _, rfl, _, rfl, _, rfl, _, rfl, _, rfl, _, rfl, rfl⟩ := hl
    simp only [List.setIfInBounds_toArray, List.set_cons_zero, List.set_cons_succ]
    go_wp2_with (first | (refine wpList_store_blk rfl 3 _ _ rfl cb 7 (.int .i64 (s.r + 1)) rfl rfl 62 _ (Whole.under HB.out HW4.out (Whole.lt HW4.out)) (by simp [Value.cells]) size3 rfl ?_; intro w5 S5 W5; have HW5 := Lib.hid (show Whole w5 cb 62 #[.int .i64 s.size, .int .i64 n, .map (some w.heap.size), .slice none 0 0, .int .i64 s.h, .int .i64 s.m, .int .i64 s.e, .int .i64 (s.r + 1)] from W5); have HS5 := Lib.hid S5; clear S5 W5))
    go_ret
    have hb : Below w.heap.size w wm := by rw [HM.out]; exact (Below.refl _ w).alloc (Nat.le_refl _) _
    have hF := HC.out.foot
    have hcb : F cb := (hF cb).2 (.inl rfl)
    have ht : Tch w w5 F := (Tch.of_below hb (Nat.le_refl _)).trans ((Tch.of_sto HS2.out hcb).trans ((Tch.of_sto HS3.out hcb).trans ((Tch.of_sto HS4.out hcb).trans ((Tch.of_below HB.out (Nat.le_refl _)).trans (Tch.of_sto HS5.out hcb)))))
    have hlt := HC.out.blk.lt
    have hm5 : MapAt w5 Try.prog 41 w.heap.size [] := by
      have hne : w.heap.size ≠ cb := by omega
      have h1 : wm.heap.size ≤ w4.heap.size := by rw [HS4.out.size, HS3.out.size, HS2.out.size]; exact Nat.le_refl _
      exact HMP.out.kept ((HS5.out.block _ hne).trans ((HB.out.block _ (Nat.lt_of_lt_of_le HMP.out.lt h1)).trans ((HS4.out.block _ hne).trans ((HS3.out.block _ hne).trans (HS2.out.block _ hne)))))
    refine ⟨rfl, fun i => i = cb ∨ i = w.heap.size ∨ (Value.slice none 0 0).ownBlock = some i, ⟨_, _, HW5.out, hm5, .inl ⟨rfl, rfl⟩, fun _ => rfl, fun i => Iff.rfl, ⟨HC.out.ok.lo, HC.out.ok.hi, by have := HC.out.ok.lo; simp [St.reset]; omega, by simp [St.reset, St.keys]⟩⟩, ht, ?_⟩
    rintro i (rfl | rfl | h)
    · exact .inl hcb
    · exact .inr (Nat.le_refl _)
    · cases h

end Go.Proofs.Ytcdhjcjdphnleaa
