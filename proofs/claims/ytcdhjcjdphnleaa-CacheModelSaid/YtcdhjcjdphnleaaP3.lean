import Derived.Test.YtcdhjcjdphnleaaZK
namespace Go.Proofs.Ytcdhjcjdphnleaa
open Go Go.WideMaps Go.RowKit

set_option maxHeartbeats 4000000 in
theorem model_long (w : World) (n : Int) (a : Option Addr) (c : Nat) (l : List Opn) (h : 60 < l.length) : Calls Try.prog 3 #[.int .i64 n, .slice a l.length c] w fun e w' => e = .returned (.bool true) ∧ Below w.heap.size w w' := by
  have h' : (60 : Int) < (l.length : Int) := by omega
  clear h
  go_enter Try.func3, Try.ntmps3
  go_wp2_with (go_at_call 10; go_must (refine (awake_any _).mono ?_; rintro e w9 ⟨rfl, hb⟩; have HB9 := Lib.hid hb; clear hb))
  go_ret
  exact ⟨rfl, HB9.out⟩
set_option maxHeartbeats 4000000 in
theorem model_lo (w : World) (n : Int) (a : Option Addr) (c : Nat) (l : List Opn) (h2 : l.length ≤ 60) (h : n < 1) : Calls Try.prog 3 #[.int .i64 n, .slice a l.length c] w fun e w' => e = .returned (.bool true) ∧ Below w.heap.size w w' := by
  have hl : (l.length : Int) ≤ 60 := by omega
  clear h2
  go_enter Try.func3, Try.ntmps3
  go_wp2_with (first | (go_at_call 11; go_must (refine (new_no _ n (.inl h)).mono ?_; rintro e w' ⟨rfl, rfl⟩)) | (go_at_call 12; go_must (refine (first_lo _ n h).mono ?_; rintro e w3 ⟨rfl, hb3⟩; have HB3 := Lib.hid hb3; clear hb3)) | (refine wpList_store_blk rfl 29 _ _ rfl (w3.heap.size) 0 (.agg #[.int .i64 0, .int .i64 0, .slice none 0 0, .slice none 0 0, .int .i64 0, .int .i64 0, .int .i64 0, .int .i64 0]) rfl rfl 29 _ (Whole.new w3 29 _) (by simp [Value.cells]) size29 rfl ?_; intro w4 S4 W4; rw [splice_all _ _ (by rfl)] at W4; have HS4 := Lib.hid S4; have HW4 := Lib.hid (show Whole w4 (w3.heap.size) 29 #[.int .i64 0, .int .i64 0, .slice none 0 0, .slice none 0 0, .int .i64 0, .int .i64 0, .int .i64 0, .int .i64 0] from W4); clear S4 W4) | (go_at_call 10; go_must (refine (awake_any _).mono ?_; rintro e w9 ⟨rfl, hb⟩; have HB9 := Lib.hid hb; clear hb)))
  go_ret
  exact ⟨rfl, (HB3.out.trans ((((Below.refl w3.heap.size w3).alloc (Nat.le_refl _) _).trans (HS4.out.below (Nat.le_refl _))).mono HB3.out.size)).trans (HB9.out.mono (by have := HB3.out.size; have := HW4.out.lt; omega))⟩

set_option maxHeartbeats 4000000 in
theorem model_hi (w : World) (n : Int) (a : Option Addr) (c : Nat) (l : List Opn) (h2 : l.length ≤ 60) (h0 : 1 ≤ n) (h : 1024 < n) : Calls Try.prog 3 #[.int .i64 n, .slice a l.length c] w fun e w' => e = .returned (.bool true) ∧ Below w.heap.size w w' := by
  have hl : (l.length : Int) ≤ 60 := by omega
  clear h2
  go_enter Try.func3, Try.ntmps3
  go_wp2_with (first | (go_at_call 11; go_must (refine (new_no _ n (.inr h)).mono ?_; rintro e w' ⟨rfl, rfl⟩)) | (go_at_call 12; go_must (refine (first_hi _ n h0 h).mono ?_; rintro e w3 ⟨rfl, hb3⟩; have HB3 := Lib.hid hb3; clear hb3)) | (refine wpList_store_blk rfl 29 _ _ rfl (w3.heap.size) 0 (.agg #[.int .i64 0, .int .i64 0, .slice none 0 0, .slice none 0 0, .int .i64 0, .int .i64 0, .int .i64 0, .int .i64 0]) rfl rfl 29 _ (Whole.new w3 29 _) (by simp [Value.cells]) size29 rfl ?_; intro w4 S4 W4; rw [splice_all _ _ (by rfl)] at W4; have HS4 := Lib.hid S4; have HW4 := Lib.hid (show Whole w4 (w3.heap.size) 29 #[.int .i64 0, .int .i64 0, .slice none 0 0, .slice none 0 0, .int .i64 0, .int .i64 0, .int .i64 0, .int .i64 0] from W4); clear S4 W4) | (go_at_call 10; go_must (refine (awake_any _).mono ?_; rintro e w9 ⟨rfl, hb⟩; have HB9 := Lib.hid hb; clear hb)))
  go_ret
  exact ⟨rfl, (HB3.out.trans ((((Below.refl w3.heap.size w3).alloc (Nat.le_refl _) _).trans (HS4.out.below (Nat.le_refl _))).mono HB3.out.size)).trans (HB9.out.mono (by have := HB3.out.size; have := HW4.out.lt; omega))⟩

theorem xr_nil (Y : Nat → Prop) : XR (.slice none 0 0) (.slice none 0 0) Y = Y := by
  funext i
  simp [XR, Value.ownBlock]

set_option maxRecDepth 100000 in
set_option maxHeartbeats 8000000 in
theorem model_main (w : World) (n : Int) (a : Option Addr) (c : Nat) (l : List Opn) (h0 : 1 ≤ n) (h1 : n ≤ 1024) (h2 : l.length ≤ 60) (hw : ∀ o ∈ l, o.Wf)
    (H1 : Hid (∀ i y, l[i]? = some y → ∃ b off, a = some ⟨b, off, none⟩ ∧ ∀ wr, Below w.heap.size w wr → wr.cell? ⟨b, off + i * 6, none⟩ = some (.int .u8 y.kind) ∧ wr.cell? ⟨b, off + i * 6 + 1, none⟩ = some (.int .i64 y.src) ∧ wr.cell? ⟨b, off + i * 6 + 2, none⟩ = some (.int .i64 y.tgt) ∧ wr.cell? ⟨b, off + i * 6 + 3, none⟩ = some (.int .i64 y.cls) ∧ wr.cell? ⟨b, off + i * 6 + 4, none⟩ = some (.int .u32 y.allowed) ∧ wr.cell? ⟨b, off + i * 6 + 5, none⟩ = some (.int .i64 y.seq))) :
    Calls Try.prog 3 #[.int .i64 n, .slice a l.length c] w fun e w' => e = .returned (.bool true) ∧ Below w.heap.size w w' := by
  have HW1 := Lib.hid hw
  clear hw
  have hl : (l.length : Int) ≤ 60 := by omega
  have HM0 := Lib.hid (Many.start (X := fun _ => False) w w.heap.size (Nat.le_refl _) (fun _ h => h.elim))
  go_enter Try.func3, Try.ntmps3
  go_wp2_with fail
  refine (new_m n HM0.out h0 h1).mono ?_
  rintro e w1 ⟨cb, rfl, hm, -⟩
  have HM1 := Lib.hid (show Many (fun _ => False) w.heap.size w w1 [(cb, fresh n)] from hm)
  clear hm
  go_wp2_with (first | (go_at_call 12; go_must (refine (first_yes w1 n h0 h1).mono ?_; rintro e w3 ⟨rfl, hb3⟩; have HB3 := Lib.hid hb3; clear hb3)) | (refine wpList_store_blk rfl 29 _ _ rfl (w3.heap.size) 0 (.agg #[.int .i64 n, .int .i64 0, .slice none 0 0, .slice none 0 0, .int .i64 0, .int .i64 0, .int .i64 0, .int .i64 0]) rfl rfl 29 _ (Whole.new w3 29 _) (by simp [Value.cells]) size29 rfl ?_; intro w4 S4 W4; rw [splice_all _ _ (by rfl)] at W4; have HS4 := Lib.hid S4; have HW4 := Lib.hid (show Whole w4 (w3.heap.size) 29 #[.int .i64 n, .int .i64 0, .slice none 0 0, .slice none 0 0, .int .i64 0, .int .i64 0, .int .i64 0, .int .i64 0] from W4); clear S4 W4))
  obtain ⟨sb, hsb⟩ : ∃ sb, sb = w3.heap.size := ⟨_, rfl⟩
  have HB4 := Lib.hid (show Below w1.heap.size w1 w4 from HB3.out.trans ((((Below.refl w3.heap.size w3).alloc (Nat.le_refl _) _).trans (HS4.out.below (Nat.le_refl _))).mono HB3.out.size))
  have HM4 := Lib.hid (show Many (XR (.slice none 0 0) (.slice none 0 0) (fun i => i = sb)) w.heap.size w w4 [(cb, fresh n)] by
    rw [xr_nil]
    exact HM1.out.other HB4.out fun i hi => .inr ⟨by have := HB3.out.size; omega, by have := HW4.out.lt; omega⟩)
  have HSB := Lib.hid (show w.heap.size ≤ sb by have := HM1.out.base; have := HB3.out.size; omega)
  rw [← hsb] at HW4 ⊢
  clear hsb HS4 HB3 HB4 HM1
  go_loopw [7, 8] (fun ok i wr => ∃ (m : Nat) (s : St) (kv dv : Value), m ≤ l.length ∧ i = .int .i64 m ∧ ok = .bool true ∧ Many (XR kv dv (fun i => i = sb)) w.heap.size w wr [(cb, s)] ∧ RefAt wr kv dv s ∧ Whole wr sb 29 #[.int .i64 s.size, .int .i64 s.seq, kv, dv, .int .i64 s.h, .int .i64 s.m, .int .i64 s.e, .int .i64 s.r] ∧ kv.ownBlock ≠ some sb ∧ dv.ownBlock ≠ some sb ∧ s.Cnt m) (fun _ i _ => l.length - (intOf i).toNat)
  case atStart => exact ⟨0, fresh n, .slice none 0 0, .slice none 0 0, Nat.zero_le _, rfl, rfl, HM4.out, ⟨SliceAt.nil _ _, SliceAt.nil _ _⟩, HW4.out, (fun e => by cases e), (fun e => by cases e), cnt_fresh n⟩
  case round =>
    obtain ⟨m, s, kv, dv, hm, rfl, rfl, hM, hR, hS, hkn, hdn, hC⟩ := hrel
    obtain ⟨ka, km, kc, rfl⟩ := own_shape hR.keys
    obtain ⟨da, dm, dc, rfl⟩ := own_shape hR.decs
    have HM := Lib.hid hM
    have HC := Lib.hid hC
    have HRF := Lib.hid hR
    have HS := Lib.hid hS
    have HKN := Lib.hid hkn
    have HDN := Lib.hid hdn
    clear hM hC hR hS hkn hdn HM4 HW4
    by_cases hlt : m < l.length
    · obtain ⟨y, hy⟩ : ∃ y, l[m]? = some y := ⟨_, List.getElem?_eq_getElem hlt⟩
      obtain ⟨b, off, rfl, hcell⟩ := H1.out m y hy
      have HCE := Lib.hid hcell
      have HWY := Lib.hid (HW1.out y (List.mem_of_getElem? hy))
      obtain ⟨t, ht⟩ : ∃ t, s.play y = t := ⟨_, rfl⟩
      have HT := Lib.hid ht
      clear hcell hy ht
      go_wp2_with fail
      refine wp_region_goods [some 36, some 37, some 38, some 39, some 40, some 41, some 42, some 35, some 43, some 44, none] [isW (.pointer (some ⟨cb, 0, none⟩)), fun L u _ => u = .agg #[.int .i64 s.size, .int .i64 s.seq, .slice ka km kc, .slice da dm dc, .int .i64 s.h, .int .i64 s.m, .int .i64 s.e, .int .i64 s.r] ∧ L 1 = true, isW (.slice (some ⟨b, off, none⟩) l.length c), isW (.int .i64 m), isW (.pointer (some ⟨b, off + m * 6, none⟩)), isW (.agg #[.int .u8 y.kind, .int .i64 y.src, .int .i64 y.tgt, .int .i64 y.cls, .int .u32 y.allowed, .int .i64 y.seq]), fun L u w' => ∃ kv' dv', u = .tuple #[.agg #[.int .i64 t.size, .int .i64 t.seq, kv', dv', .int .i64 t.h, .int .i64 t.m, .int .i64 t.e, .int .i64 t.r], .bool true] ∧ Many (XR kv' dv' (fun i => i = sb)) w.heap.size w w' [(cb, t)] ∧ RefAt w' kv' dv' t ∧ Fresh wr.heap.size w' (.slice ka km kc) (.slice da dm dc) kv' dv' ∧ (L 10 = false → Whole w' sb 29 #[.int .i64 s.size, .int .i64 s.seq, .slice ka km kc, .slice da dm dc, .int .i64 s.h, .int .i64 s.m, .int .i64 s.e, .int .i64 s.r]) ∧ L 6 = true, fun L u w' => ∃ kv' dv', u = .tuple #[.agg #[.int .i64 t.size, .int .i64 t.seq, kv', dv', .int .i64 t.h, .int .i64 t.m, .int .i64 t.e, .int .i64 t.r], .bool true] ∧ Many (XR kv' dv' (fun i => i = sb)) w.heap.size w w' [(cb, t)] ∧ RefAt w' kv' dv' t ∧ Fresh wr.heap.size w' (.slice ka km kc) (.slice da dm dc) kv' dv' ∧ (L 10 = false → Whole w' sb 29 #[.int .i64 s.size, .int .i64 s.seq, .slice ka km kc, .slice da dm dc, .int .i64 s.h, .int .i64 s.m, .int .i64 s.e, .int .i64 s.r]) ∧ L 6 = true, fun L u w' => ∃ kv' dv', u = .agg #[.int .i64 t.size, .int .i64 t.seq, kv', dv', .int .i64 t.h, .int .i64 t.m, .int .i64 t.e, .int .i64 t.r] ∧ Many (XR kv' dv' (fun i => i = sb)) w.heap.size w w' [(cb, t)] ∧ RefAt w' kv' dv' t ∧ Fresh wr.heap.size w' (.slice ka km kc) (.slice da dm dc) kv' dv' ∧ (L 10 = false → Whole w' sb 29 #[.int .i64 s.size, .int .i64 s.seq, .slice ka km kc, .slice da dm dc, .int .i64 s.h, .int .i64 s.m, .int .i64 s.e, .int .i64 s.r]) ∧ L 6 = true, isW (.bool true), fun L _ w' => ∃ kv' dv', Whole w' sb 29 #[.int .i64 t.size, .int .i64 t.seq, kv', dv', .int .i64 t.h, .int .i64 t.m, .int .i64 t.e, .int .i64 t.r] ∧ Many (XR kv' dv' (fun i => i = sb)) w.heap.size w w' [(cb, t)] ∧ RefAt w' kv' dv' t ∧ Fresh wr.heap.size w' (.slice ka km kc) (.slice da dm dc) kv' dv' ∧ L 6 = true] (fun L w' => Below w.heap.size w w' ∧ (L 6 = false → Many (XR (.slice ka km kc) (.slice da dm dc) (fun i => i = sb)) w.heap.size w w' [(cb, s)] ∧ RefAt w' (.slice ka km kc) (.slice da dm dc) s ∧ Whole w' sb 29 #[.int .i64 s.size, .int .i64 s.seq, .slice ka km kc, .slice da dm dc, .int .i64 s.h, .int .i64 s.m, .int .i64 s.e, .int .i64 s.r] ∧ wr.heap.size ≤ w'.heap.size) ∧ (L 6 = true → L 1 = true)) [6, 10] (by kernel_rfl) (by kernel_rfl) (by kernel_rfl) rfl (by decide) rfl rfl (⟨HM.out.below.drew, fun _ => ⟨HM.out.under ((Below.refl _ _).drew), HRF.out.under ((Below.refl _ _).drew), HS.out, Nat.le_refl _⟩, fun h => by cases h⟩) ⟨lastsW_is _, (fun L i v w' w'' hi h hb => ⟨h.1, by simp [upd, h.2]⟩), lastsW_is _, lastsW_is _, lastsW_is _, lastsW_is _, (fun L i v w' w'' hi ⟨kv', dv', h1, h2, h3, hf, h4, h5⟩ hb => ⟨kv', dv', h1, h2.under hb, ⟨h3.keys.keep hb, h3.decs.keep hb⟩, hf.keep hb (Nat.le_refl _), fun h => Whole.under hb (h4 (Bool.or_eq_false_iff.1 h).2) (h4 (Bool.or_eq_false_iff.1 h).2).lt, by simp [upd, h5]⟩), (fun L i v w' w'' hi ⟨kv', dv', h1, h2, h3, hf, h4, h5⟩ hb => ⟨kv', dv', h1, h2.under hb, ⟨h3.keys.keep hb, h3.decs.keep hb⟩, hf.keep hb (Nat.le_refl _), fun h => Whole.under hb (h4 (Bool.or_eq_false_iff.1 h).2) (h4 (Bool.or_eq_false_iff.1 h).2).lt, by simp [upd, h5]⟩), (fun L i v w' w'' hi ⟨kv', dv', h1, h2, h3, hf, h4, h5⟩ hb => ⟨kv', dv', h1, h2.under hb, ⟨h3.keys.keep hb, h3.decs.keep hb⟩, hf.keep hb (Nat.le_refl _), fun h => Whole.under hb (h4 (Bool.or_eq_false_iff.1 h).2) (h4 (Bool.or_eq_false_iff.1 h).2).lt, by simp [upd, h5]⟩), lastsW_is _, (fun L i v w' w'' hi ⟨kv', dv', h1, h2, h3, hf, h5⟩ hb => ⟨kv', dv', Whole.under hb h1 h1.lt, h2.under hb, ⟨h3.keys.keep hb, h3.decs.keep hb⟩, hf.keep hb (Nat.le_refl _), by simp [upd, h5]⟩), trivial⟩ ⟨?_, ?_, ?_, ?_, ?_, ?_, ?_, ?_, ?_, ?_, ?_, ?_⟩
      · intro L a wx Q' hL hi H F hK
        try dsimp only at hi
        have h5 : a.tmps[5]? = some (.pointer (some ⟨cb, 0, none⟩)) := F 5 rfl
        have HI := Lib.hid hi
        clear H F hi hL
        go_wp2_with fail
        exact hK _ _ (Below.refl _ _) HI.out rfl
      · intro L a wx Q' hL hi H F hK
        try dsimp only at hi
        have h6 : a.tmps[6]? = some (.pointer (some ⟨sb, 0, none⟩)) := F 6 rfl
        have HI := Lib.hid hi
        clear H F hi
        have hl6 : L 6 = false := by
          rcases Bool.eq_false_or_eq_true (L 6) with h | h
          · rw [HI.out.2.2 h] at hL; cases hL
          · exact h
        have HWS := Lib.hid (HI.out.2.1 hl6).2.2.1
        have HK := hK
        refine wpList_load_row rfl 29 _ rfl sb (by simp [Act.eval, *]) 29 _ (0, 0) _ HWS.out Try.underlying29 rfl size29 ?_
        exact hK _ _ (Below.refl _ _) ⟨HI.out.1, fun h => HI.out.2.1 hl6, fun h => by simp [upd]⟩ ⟨rfl, by simp [upd]⟩
      · intro L a wx Q' hL hi H F hK
        try dsimp only at hi
        have h1 : a.tmps[1]? = some (.slice (some ⟨b, off, none⟩) l.length c) := F 1 rfl
        have HI := Lib.hid hi
        clear H F hi hL
        go_wp2_with fail
        exact hK _ _ (Below.refl _ _) HI.out rfl
      · intro L a wx Q' hL hi H F hK
        try dsimp only at hi
        have h8 : a.tmps[8]? = some (.int .i64 m) := F 8 rfl
        have HI := Lib.hid hi
        clear H F hi hL
        go_wp2_with fail
        exact hK _ _ (Below.refl _ _) HI.out rfl
      · intro L a wx Q' hL hi H F hK
        try dsimp only at hi
        obtain ⟨_, h38, rfl⟩ := H 2 ⟨.data, by simp, rfl⟩ _ rfl
        replace h38 := h38 _ rfl
        obtain ⟨_, h39, rfl⟩ := H 3 ⟨.data, by simp, rfl⟩ _ rfl
        replace h39 := h39 _ rfl
        have HI := Lib.hid hi
        clear H F hi hL
        go_wp2_with fail
        exact hK _ _ (Below.refl _ _) HI.out rfl
      · intro L a wx Q' hL hi H F hK
        try dsimp only at hi
        obtain ⟨_, h40, rfl⟩ := H 4 ⟨.data, by simp, rfl⟩ _ rfl
        replace h40 := h40 _ rfl
        have HI := Lib.hid hi
        clear H F hi hL
        obtain ⟨k0, k1, k2, k3, k4, k5⟩ := HCE.out wx HI.out.1
        go_wp2_with fail
        exact hK _ _ (Below.refl _ _) HI.out rfl
      · intro L a wx Q' hL hi H F hK
        try dsimp only at hi
        obtain ⟨_, h36, rfl⟩ := H 0 ⟨.data, by simp, rfl⟩ _ rfl
        replace h36 := h36 _ rfl
        obtain ⟨v37, h37, hv37⟩ := H 1 ⟨.data, by simp, rfl⟩ _ rfl
        replace h37 := h37 _ rfl
        have HV37 := Lib.hid hv37
        clear hv37
        obtain ⟨_, h41, rfl⟩ := H 5 ⟨.data, by simp, rfl⟩ _ rfl
        replace h41 := h41 _ rfl
        have HI := Lib.hid hi
        clear H F hi
        obtain ⟨rfl, hl1⟩ := HV37.out
        have HL1 := Lib.hid hl1
        clear HV37 hl1
        go_wp2_with (go_at_call 13; go_must (refine (step_any (fun i => i = sb) wx w w.heap.size cb s y _ _ (HI.out.2.1 hL).1 (HI.out.2.1 hL).2.1 (HC.out.mono (by omega)) HWY.out).mono ?_; rintro e w1 ⟨kv', dv', rfl, hm, hr, hf, ha⟩))
        rw [HT.out] at hm hr ⊢
        have hsb := ha.whole (HI.out.2.1 hL).2.2.1 rfl
        exact hK _ _ (show KeepAll _ _ _ _ _ _ _ _ from ⟨(fun _ _ _ _ h => h), (fun _ _ _ _ h => ⟨h.1, by simp [upd, h.2]⟩), (fun _ _ _ _ h => h), (fun _ _ _ _ h => h), (fun _ _ _ _ h => h), (fun _ _ _ _ h => h), (fun h => absurd rfl h), (fun _ _ _ _ ⟨_, _, _, _, _, _, _, h⟩ => by rw [hL] at h; cases h), (fun _ _ _ _ ⟨_, _, _, _, _, _, _, h⟩ => by rw [hL] at h; cases h), (fun _ _ _ _ h => h), (fun _ _ _ _ ⟨_, _, _, _, _, _, h⟩ => by rw [hL] at h; cases h), trivial⟩) ⟨hm.below, fun h => by simp [upd] at h, fun _ => by rw [upd_ne' _ (show (1 : Nat) ≠ 6 by decide)]; exact HL1.out⟩ ⟨kv', dv', rfl, hm, hr, hf.keep (Below.refl _ _) (HI.out.2.1 hL).2.2.2, fun _ => hsb, by simp [upd]⟩
      · intro L a wx Q' hL hi H F hK
        try dsimp only at hi
        obtain ⟨v42, h42, hv42⟩ := H 6 ⟨.data, by simp, rfl⟩ _ rfl
        replace h42 := h42 _ rfl
        have HV42 := Lib.hid hv42
        clear hv42
        have HI := Lib.hid hi
        clear H F hi hL
        obtain ⟨kv', dv', rfl, h2, h3, hf, h4, h5⟩ := HV42.out
        go_wp2_with fail
        exact hK _ _ (Below.refl _ _) HI.out ⟨kv', dv', rfl, h2, h3, hf, h4, by simp [upd, h5]⟩
      · intro L a wx Q' hL hi H F hK
        try dsimp only at hi
        obtain ⟨v35, h35, hv35⟩ := H 7 ⟨.data, by simp, rfl⟩ _ rfl
        replace h35 := h35 _ rfl
        have HV35 := Lib.hid hv35
        clear hv35
        have HI := Lib.hid hi
        clear H F hi hL
        obtain ⟨kv', dv', rfl, h2, h3, hf, h4, h5⟩ := HV35.out
        go_wp2_with fail
        exact hK _ _ (Below.refl _ _) HI.out ⟨kv', dv', rfl, h2, h3, hf, h4, by simp [upd, h5]⟩
      · intro L a wx Q' hL hi H F hK
        try dsimp only at hi
        obtain ⟨v35, h35, hv35⟩ := H 7 ⟨.data, by simp, rfl⟩ _ rfl
        replace h35 := h35 _ rfl
        have HV35 := Lib.hid hv35
        clear hv35
        have HI := Lib.hid hi
        clear H F hi hL
        obtain ⟨kv', dv', rfl, -⟩ := HV35.out
        go_wp2_with fail
        exact hK _ _ (Below.refl _ _) HI.out rfl
      · intro L a wx Q' hL hi H F hK
        try dsimp only at hi
        obtain ⟨v43, h43, hv43⟩ := H 8 ⟨.data, by simp, rfl⟩ _ rfl
        replace h43 := h43 _ rfl
        have HV43 := Lib.hid hv43
        clear hv43
        have h6 : a.tmps[6]? = some (.pointer (some ⟨sb, 0, none⟩)) := F 6 rfl
        have HI := Lib.hid hi
        clear H F hi
        obtain ⟨kv', dv', rfl, hm, hr, hf, h4, h6⟩ := HV43.out
        obtain ⟨ja, jm, jc, rfl⟩ := own_shape hr.keys
        obtain ⟨ea, em, ec, rfl⟩ := own_shape hr.decs
        have HWS := Lib.hid (h4 hL)
        have HMG := Lib.hid hm
        have HRG := Lib.hid hr
        have HFG := Lib.hid hf
        have HL6 := Lib.hid h6
        clear HV43 h4 hm hr hf h6
        refine wpList_store_blk rfl 29 _ _ rfl sb 0 (.agg #[.int .i64 t.size, .int .i64 t.seq, .slice ja jm jc, .slice ea em ec, .int .i64 t.h, .int .i64 t.m, .int .i64 t.e, .int .i64 t.r]) (by simp [Act.eval, *]) (by simp [Act.eval, *]) 29 _ HWS.out (by simp [Value.cells]) size29 rfl ?_
        intro w5 S5 W5
        rw [splice_all _ _ (by rfl)] at W5
        have hfa := HFG.out.far HWS.out HKN.out HDN.out
        exact hK undef w5 (show KeepAll _ _ _ _ _ _ _ _ from ⟨(fun _ _ _ _ h => h), (fun _ _ _ _ h => ⟨h.1, by simp [upd, h.2]⟩), (fun _ _ _ _ h => h), (fun _ _ _ _ h => h), (fun _ _ _ _ h => h), (fun _ _ _ _ h => h), (fun _ _ v _ ⟨kv', dv', h1, h2, h3, hf, h4, h5⟩ => have hfb := hf.far HWS.out HKN.out HDN.out; ⟨kv', dv', h1, h2.sto HWS.out (by decide) (by decide) S5 HSB.out, ⟨S5.slice h3.keys hfb.1, S5.slice h3.decs hfb.2⟩, hf.sto S5 HWS.out, fun h => by simp [upd] at h, by simp [upd, h5]⟩), (fun _ _ v _ ⟨kv', dv', h1, h2, h3, hf, h4, h5⟩ => have hfb := hf.far HWS.out HKN.out HDN.out; ⟨kv', dv', h1, h2.sto HWS.out (by decide) (by decide) S5 HSB.out, ⟨S5.slice h3.keys hfb.1, S5.slice h3.decs hfb.2⟩, hf.sto S5 HWS.out, fun h => by simp [upd] at h, by simp [upd, h5]⟩), (fun _ _ v _ ⟨kv', dv', h1, h2, h3, hf, h4, h5⟩ => have hfb := hf.far HWS.out HKN.out HDN.out; ⟨kv', dv', h1, h2.sto HWS.out (by decide) (by decide) S5 HSB.out, ⟨S5.slice h3.keys hfb.1, S5.slice h3.decs hfb.2⟩, hf.sto S5 HWS.out, fun h => by simp [upd] at h, by simp [upd, h5]⟩), (fun _ _ _ _ h => h), (fun h => absurd rfl h), trivial⟩) ⟨HI.out.1.trans (S5.below HSB.out), fun h => (by rw [upd_ne' _ (show (6 : Nat) ≠ 10 by decide)] at h; rw [HL6.out] at h; cases h), fun h => (by rw [upd_ne' _ (show (1 : Nat) ≠ 10 by decide)]; exact HI.out.2.2 HL6.out)⟩ ⟨_, _, W5, HMG.out.sto HWS.out (by decide) (by decide) S5 HSB.out, ⟨S5.slice HRG.out.keys hfa.1, S5.slice HRG.out.decs hfa.2⟩, HFG.out.sto S5 HWS.out, by simp [upd, HL6.out]⟩
      · intro a wx L hl hi hL Q' hK
        try dsimp only at hi
        have HB := Lib.hid hi
        clear hi hL
        obtain ⟨_, rfl, u37, hu37, _, rfl, _, rfl, _, rfl, _, rfl, u42, hu42, u35, hu35, u43, hu43, _, rfl, un10, hun10, rfl⟩ := hl
        have HU37 := Lib.hid hu37
        clear hu37
        have HU42 := Lib.hid hu42
        clear hu42
        have HU35 := Lib.hid hu35
        clear hu35
        have HU43 := Lib.hid hu43
        clear hu43
        have HUn10 := Lib.hid hun10
        clear hun10
        simp only [List.setIfInBounds_toArray, List.set_cons_zero, List.set_cons_succ]
        obtain ⟨kv', dv', hW, hm, hr, hf, -⟩ := HUn10.out
        obtain ⟨ja, jm, jc, rfl⟩ := own_shape hr.keys
        obtain ⟨ea, em, ec, rfl⟩ := own_shape hr.decs
        have HWX := Lib.hid hW
        have HMX := Lib.hid hm
        have HRX := Lib.hid hr
        have hfa := hf.far hW HKN.out HDN.out
        have HKX := Lib.hid hfa.1
        have HDX := Lib.hid hfa.2
        clear HU37 HU42 HU35 HU43 HUn10 HB hW hm hr hf hfa
        have e0 : wx.cell? ⟨sb, 0, none⟩ = some (.int .i64 t.size) := HWX.out.cell 0
        have e1 : wx.cell? ⟨sb, 1, none⟩ = some (.int .i64 t.seq) := HWX.out.cell 1
        have e2 : wx.cell? ⟨sb, 2, none⟩ = some (.slice ja jm jc) := HWX.out.cell 2
        have e3 : wx.cell? ⟨sb, 3, none⟩ = some (.slice ea em ec) := HWX.out.cell 3
        have e4 : wx.cell? ⟨sb, 4, none⟩ = some (.int .i64 t.h) := HWX.out.cell 4
        have e5 : wx.cell? ⟨sb, 5, none⟩ = some (.int .i64 t.m) := HWX.out.cell 5
        have e6 : wx.cell? ⟨sb, 6, none⟩ = some (.int .i64 t.e) := HWX.out.cell 6
        have e7 : wx.cell? ⟨sb, 7, none⟩ = some (.int .i64 t.r) := HWX.out.cell 7
        go_wp2_with (first | (go_at_call 14; go_must (refine (agree_any _ wx w w.heap.size cb t _ _ HMX.out HRX.out).mono ?_; rintro e w9 ⟨rfl, hb9⟩; have HB9 := Lib.hid hb9; clear hb9)))
        clear e0 e1 e2 e3 e4 e5 e6 e7
        go_roundw
        case rel => (repeat apply Exists.intro); first | exact ⟨⟨show m + 1 ≤ l.length by omega, by go_num, rfl, (HMX.out.under HB9.out), ⟨HRX.out.keys.keep HB9.out, HRX.out.decs.keep HB9.out⟩, Whole.under HB9.out HWX.out HWX.out.lt, HKX.out, HDX.out, HT.out ▸ cnt_play HC.out y⟩, rfl⟩ | exact ⟨show m + 1 ≤ l.length by omega, by go_num, rfl, (HMX.out.under HB9.out), ⟨HRX.out.keys.keep HB9.out, HRX.out.decs.keep HB9.out⟩, Whole.under HB9.out HWX.out HWX.out.lt, HKX.out, HDX.out, HT.out ▸ cnt_play HC.out y⟩
        case measure => simp [intOf]; omega
    · obtain rfl : m = l.length := by omega
      go_wp2_with (go_at_call 10; go_must (refine (awake_any _).mono ?_; rintro e w9 ⟨rfl, hb⟩; have HB9 := Lib.hid hb; clear hb))
      go_ret
      exact ⟨rfl, HM.out.below.trans (HB9.out.mono HM.out.base)⟩

theorem cacheModel_any (w : World) (n : Int) (v : Value) (l : List Opn) (hl : OpsAt w v l) (hw : ∀ o ∈ l, o.Wf) :
    Calls Try.prog 3 #[.int .i64 n, v] w fun e w' => e = .returned (.bool true) ∧ Below w.heap.size w w' := by
  obtain ⟨a, c, rfl, -, hm, H1⟩ := ops_form hl
  by_cases h2 : 60 < l.length
  · exact model_long w n a c l h2
  by_cases h0 : n < 1
  · exact model_lo w n a c l (by omega) h0
  by_cases h1 : 1024 < n
  · exact model_hi w n a c l (by omega) (by omega) h1
  exact model_main w n a c l (by omega) (by omega) (by omega) hw H1

end Go.Proofs.Ytcdhjcjdphnleaa
