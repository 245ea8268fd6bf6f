import Derived.Test.YtcdhjcjdphnleaaZC
import Derived.Test.YtcdhjcjdphnleaaM
import Derived.Test.YtcdhjcjdphnleaaZE
namespace Go.Proofs.Ytcdhjcjdphnleaa
open Go Go.WideMaps Go.RowKit

theorem SliceAt.back {w : World} {b o : Nat} {A : Addr} {k n c i : Nat} {cs : List Value} (h : SliceAt w (.slice (some ⟨b, o, none⟩) n c) k n cs) (hA : (if c = i then some (⟨b, o, none⟩ : Addr) else some ⟨b, o + i * k, none⟩) = some A) (hi : i ≤ n) : SliceAt w (.slice (some A) (n - i) (c - i)) k (n - i) (cs.drop (i * k)) := by
  obtain ⟨h1, h2, h3, ⟨h4, h5⟩ | ⟨a', c', h4, h5, h6⟩⟩ := h
  · cases h4
  · cases h4
    refine ⟨?_, by omega, fun u hu => h3 u (List.mem_of_mem_drop hu), .inr ⟨A, c - i, rfl, by omega, fun j u hj => ?_⟩⟩
    · rw [List.length_drop, h1, Nat.sub_mul]
    · rw [List.getElem?_drop] at hj
      by_cases hc : c = i
      · have hl : i * k + j < cs.length := (List.getElem?_eq_some_iff.1 hj).1
        have : n = i := by omega
        subst this
        omega
      · rw [if_neg hc] at hA
        cases hA
        have := h6 (i * k + j) u hj
        rw [Addr.add_lit] at this ⊢
        rw [← this, Nat.add_assoc]
theorem SliceAt.keepB {w w' : World} {v : Value} {k n B : Nat} {cs : List Value} (h : SliceAt w v k n cs) (hb : Below B w w') (hB : ∀ g, v.ownBlock = some g → g < B) : SliceAt w' v k n cs :=
  ⟨h.1, h.2.1, h.2.2.1, h.2.2.2.imp id fun ⟨a, c, hv, hn, hc⟩ => ⟨a, c, hv, hn, fun j u hj => by
    rw [World.cell?_of_block (hb.block _ (by rw [block_add]; exact hB _ (by rw [hv]; rfl)))]; exact hc j u hj⟩⟩
theorem decs_one (s : List Dec) : ∀ u ∈ s.flatMap Dec.row, u.oneCell' = true := by
  intro u hu
  obtain ⟨d, -, hd⟩ := List.mem_flatMap.1 hu
  simp [Dec.row] at hd
  rcases hd with rfl | rfl | rfl | rfl | rfl <;> rfl
theorem flatMap_drop {α} {f : α → List Value} {k : Nat} (hf : ∀ x, (f x).length = k) (l : List α) (i : Nat) : (l.drop i).flatMap f = (l.flatMap f).drop (i * k) := by
  induction l generalizing i with
  | nil => simp
  | cons x l ih =>
    cases i with
    | zero => simp
    | succ i =>
      rw [List.drop_succ_cons, ih, List.flatMap_cons, show (i + 1) * k = (f x).length + i * k by rw [hf, Nat.add_mul, Nat.one_mul, Nat.add_comm], ← List.drop_drop, List.drop_left]
theorem flatMap_take {α} {f : α → List Value} {k : Nat} (hf : ∀ x, (f x).length = k) (l : List α) (i : Nat) : (l.take i).flatMap f = (l.flatMap f).take (i * k) := by
  induction l generalizing i with
  | nil => simp
  | cons x l ih =>
    cases i with
    | zero => simp
    | succ i =>
      rw [List.take_succ_cons, List.flatMap_cons, ih, List.flatMap_cons, show (i + 1) * k = (f x).length + i * k by rw [hf, Nat.add_mul, Nat.one_mul, Nat.add_comm], List.take_length_add_append]
theorem rest_len {n q : Nat} (h : q < n) : 0 + q + (n - (q + 1)) = n - 1 := by omega
theorem ref_keys {w : World} {v : Value} (s : St) (q : Nat) (hlt : q < s.D.length) (h : SliceAt w v 3 (0 + q + (s.D.length - (q + 1))) ([] ++ (flat s.keys).take (q * 3) ++ (flat s.keys).drop ((q + 1) * 3))) : SliceAt w v 3 (s.D.eraseIdx q).length (flat (St.keys {s with D := s.D.eraseIdx q})) := by
  rw [rest_len hlt] at h
  rw [List.length_eraseIdx_of_lt hlt]
  have e : flat (St.keys {s with D := s.D.eraseIdx q}) = [] ++ (flat s.keys).take (q * 3) ++ (flat s.keys).drop ((q + 1) * 3) := by
    rw [← flat_take, ← flat_drop, List.nil_append, ← flat_app, ← List.eraseIdx_eq_take_drop_succ]
    simp only [St.keys]
    rw [List.eraseIdx_eq_take_drop_succ, List.eraseIdx_eq_take_drop_succ, List.map_append, List.map_take, List.map_drop]
  rw [e]
  exact h
theorem ref_decs {w : World} {v : Value} (s : St) (q : Nat) (hlt : q < s.D.length) (h : SliceAt w v 5 (0 + q + (s.D.length - (q + 1))) ([] ++ ((s.D.map Prod.snd).flatMap Dec.row).take (q * 5) ++ ((s.D.map Prod.snd).flatMap Dec.row).drop ((q + 1) * 5))) : SliceAt w v 5 (s.D.eraseIdx q).length (((s.D.eraseIdx q).map Prod.snd).flatMap Dec.row) := by
  rw [rest_len hlt] at h
  rw [List.length_eraseIdx_of_lt hlt]
  have e : ((s.D.eraseIdx q).map Prod.snd).flatMap Dec.row = [] ++ ((s.D.map Prod.snd).flatMap Dec.row).take (q * 5) ++ ((s.D.map Prod.snd).flatMap Dec.row).drop ((q + 1) * 5) := by
    rw [← flatMap_take row_len, ← flatMap_drop row_len, List.nil_append, ← List.flatMap_append, List.eraseIdx_eq_take_drop_succ, List.map_append, List.map_take, List.map_drop]
  rw [e]
  exact h

set_option maxHeartbeats 8000000 in
theorem without_any (w : World) (s : St) (kb ko db do' : Nat) (kc dc : Nat) (q : Nat) (h : RefAt w (.slice (some ⟨kb, ko, none⟩) s.D.length kc) (.slice (some ⟨db, do', none⟩) s.D.length dc) s) (hbig : s.D.length ≤ 2000) (hlt : q < s.D.length) (hkc : s.D.length ≤ kc) (hdc : s.D.length ≤ dc) :
    Calls Try.prog 40 #[.agg #[.int .i64 s.size, .int .i64 s.seq, .slice (some ⟨kb, ko, none⟩) s.D.length kc, .slice (some ⟨db, do', none⟩) s.D.length dc, .int .i64 s.h, .int .i64 s.m, .int .i64 s.e, .int .i64 s.r], .int .i64 q] w fun e w' => ∃ kv dv, e = .returned (.agg #[.int .i64 s.size, .int .i64 s.seq, kv, dv, .int .i64 s.h, .int .i64 s.m, .int .i64 s.e, .int .i64 s.r]) ∧ RefAt w' kv dv {s with D := s.D.eraseIdx q} ∧ NewRow w.heap.size kv ∧ NewRow w.heap.size dv ∧ Below w.heap.size w w' := by
  have HRF := Lib.hid h
  have HBIG := Lib.hid hbig
  have hq2 : q < 2000 := by omega
  clear h hbig
  obtain ⟨KA, hKA⟩ : ∃ A : Addr, (if kc = q + 1 then some (⟨kb, ko, none⟩ : Addr) else some ⟨kb, ko + (q + 1) * 3, none⟩) = some A := by split <;> exact ⟨_, rfl⟩
  have HKA := Lib.hid hKA
  obtain ⟨DA, hDA⟩ : ∃ A : Addr, (if dc = q + 1 then some (⟨db, do', none⟩ : Addr) else some ⟨db, do' + (q + 1) * 5, none⟩) = some A := by split <;> exact ⟨_, rfl⟩
  have HDA := Lib.hid hDA
  clear hKA hDA
  obtain ⟨wo, hwo⟩ : ∃ wo, wo = (w.alloc (.cells #[.int .i64 s.size, .int .i64 s.seq, .slice (some ⟨kb, ko, none⟩) s.D.length kc, .slice (some ⟨db, do', none⟩) s.D.length dc, .int .i64 s.h, .int .i64 s.m, .int .i64 s.e, .int .i64 s.r] 29)).alloc (.cells #[.int .i64 0, .int .i64 0, .slice none 0 0, .slice none 0 0, .int .i64 0, .int .i64 0, .int .i64 0, .int .i64 0] 29) := ⟨_, rfl⟩
  have HS0 := Lib.hid (show Whole wo w.heap.size 29 #[.int .i64 s.size, .int .i64 s.seq, .slice (some ⟨kb, ko, none⟩) s.D.length kc, .slice (some ⟨db, do', none⟩) s.D.length dc, .int .i64 s.h, .int .i64 s.m, .int .i64 s.e, .int .i64 s.r] by rw [hwo]; exact (Whole.new w 29 #[.int .i64 s.size, .int .i64 s.seq, .slice (some ⟨kb, ko, none⟩) s.D.length kc, .slice (some ⟨db, do', none⟩) s.D.length dc, .int .i64 s.h, .int .i64 s.m, .int .i64 s.e, .int .i64 s.r]).alloc _)
  have HBO := Lib.hid (show Below w.heap.size w wo by rw [hwo]; exact ((Below.refl _ w).alloc (Nat.le_refl _) _).alloc (by simp) _)
  have HN0 := Lib.hid (show wo.heap.size = w.heap.size + 2 by rw [hwo]; simp)
  have H60 := Lib.hid (show Whole wo (w.heap.size + 1) 29 #[.int .i64 0, .int .i64 0, .slice none 0 0, .slice none 0 0, .int .i64 0, .int .i64 0, .int .i64 0, .int .i64 0] by rw [hwo]; exact whole_two w _ #[.int .i64 0, .int .i64 0, .slice none 0 0, .slice none 0 0, .int .i64 0, .int .i64 0, .int .i64 0, .int .i64 0] _)
  go_enter Try.func40, Try.ntmps40
  go_upto_region 1 with (fail)
  rw [← hwo]
  clear hwo
  go_wp2_with (first | (refine wpList_load_row rfl 29 _ rfl w.heap.size rfl 29 _ (0, 0) _ HS0.out Try.underlying29 rfl size29 ?_) | (refine wpList_store_blk rfl 29 _ _ rfl (wo.heap.size) 0 (.agg #[.int .i64 s.size, .int .i64 s.seq, .slice (some ⟨kb, ko, none⟩) s.D.length kc, .slice (some ⟨db, do', none⟩) s.D.length dc, .int .i64 s.h, .int .i64 s.m, .int .i64 s.e, .int .i64 s.r]) rfl rfl 29 _ (Whole.new wo 29 _) (by simp [Value.cells]) size29 rfl ?_; intro w1 S1 W1; have HS1 := Lib.hid S1; have HW1 := Lib.hid (show Whole w1 (wo.heap.size) 29 #[.int .i64 s.size, .int .i64 s.seq, .slice (some ⟨kb, ko, none⟩) s.D.length kc, .slice (some ⟨db, do', none⟩) s.D.length dc, .int .i64 s.h, .int .i64 s.m, .int .i64 s.e, .int .i64 s.r] from W1); clear S1 W1) | (refine wpList_store_blk rfl 26 _ _ rfl (wo.heap.size) 2 (.slice none 0 0) rfl rfl 29 _ HW1.out (by simp [Value.cells]) size26 rfl ?_; intro w2 S2 W2; have HS2 := Lib.hid S2; have HW2 := Lib.hid (show Whole w2 (wo.heap.size) 29 #[.int .i64 s.size, .int .i64 s.seq, .slice none 0 0, .slice (some ⟨db, do', none⟩) s.D.length dc, .int .i64 s.h, .int .i64 s.m, .int .i64 s.e, .int .i64 s.r] from W2); clear S2 W2) | (refine wpList_store_blk rfl 27 _ _ rfl (wo.heap.size) 3 (.slice none 0 0) rfl rfl 29 _ HW2.out (by simp [Value.cells]) size27 rfl ?_; intro w3 S3 W3; have HS3 := Lib.hid S3; have HW3 := Lib.hid (show Whole w3 (wo.heap.size) 29 #[.int .i64 s.size, .int .i64 s.seq, .slice none 0 0, .slice none 0 0, .int .i64 s.h, .int .i64 s.m, .int .i64 s.e, .int .i64 s.r] from W3); clear S3 W3))
  have HSBw3 := Lib.hid (HS3.out.whole (HS2.out.whole (HS1.out.whole (HS0.out.alloc _) (by have := HN0.out; omega)) (by have := HN0.out; omega)) (by have := HN0.out; omega))
  have HSZw3 := Lib.hid (show Whole w3 (w.heap.size + 1) 29 #[.int .i64 0, .int .i64 0, .slice none 0 0, .slice none 0 0, .int .i64 0, .int .i64 0, .int .i64 0, .int .i64 0] from HS3.out.whole (HS2.out.whole (HS1.out.whole (H60.out.alloc _) (by have := HN0.out; omega)) (by have := HN0.out; omega)) (by have := HN0.out; omega))
  have HBw3 := Lib.hid (show Below w.heap.size w w3 from HBO.out.trans (((((Below.refl wo.heap.size wo).alloc (Nat.le_refl _) _).trans (HS1.out.below (Nat.le_refl _))).trans ((HS2.out.below (Nat.le_refl _)).trans (HS3.out.below (Nat.le_refl _)))).mono (by have := HN0.out; omega)))
  have HQw3 := Lib.hid (show wo.heap.size + 1 ≤ w3.heap.size from HW3.out.lt)
  have HWw3 := HW3
  clear HS1 HS2 HS3 HW1 HW2 HW3 HS0 H60 HBO
  refine wp_region_goods [some 9, some 10, some 11, some 12, some 13, some 14, some 15, some 16] [isW (.pointer (some ⟨wo.heap.size, 2, none⟩)), isW (.slice none 0 0), isW (.pointer (some ⟨w.heap.size, 2, none⟩)), isW (.slice (some ⟨kb, ko, none⟩) s.D.length kc), isW (.int .i64 (q : Nat)), isW (.slice (some ⟨kb, ko, none⟩) q kc), fun _ u w' => w'.ownsRow (wo.heap.size + 1) 41 3 u (0 + q) ([] ++ ((flat s.keys).take (q * 3))), isW (.pointer (some ⟨wo.heap.size, 2, none⟩))] (fun L w' => Below (wo.heap.size + 1) w3 w') [6] (by kernel_rfl) (by kernel_rfl) (by kernel_rfl) rfl (by decide) rfl rfl ((Below.refl _ _).drew) ⟨lastsW_is _, lastsW_is _, lastsW_is _, lastsW_is _, lastsW_is _, lastsW_is _, (fun L i v w' w'' hi h hb => h.kept (row := none) ⟨hb.os, hb.tape, hb.output, hb.size, fun k h1 _ => hb.block k h1⟩ (by cases v.ownBlock <;> simp)), lastsW_is _, trivial⟩ ⟨?_, ?_, ?_, ?_, ?_, ?_, ?_, ?_, ?_⟩
  · intro L a wx Q' hL hi H F hK
    try dsimp only at hi
    have h5 : a.tmps[5]? = some (.pointer (some ⟨wo.heap.size, 0, none⟩)) := F 5 rfl
    have HI := Lib.hid hi
    clear H F hi hL
    go_wp2_with fail
    exact hK _ _ (Below.refl _ _) HI.out rfl
  · intro L a wx Q' hL hi H F hK
    try dsimp only at hi
    obtain ⟨_, h9, rfl⟩ := H 0 ⟨.data, by simp, rfl⟩ _ rfl
    replace h9 := h9 _ rfl
    have HI := Lib.hid hi
    clear H F hi hL
    have kq0 : wx.cell? ⟨wo.heap.size, 2, none⟩ = some (.slice none 0 0) := (Whole.under HI.out HWw3.out (by have := HN0.out; have := HQw3.out; omega)).cell 2
    go_wp2_with fail
    exact hK _ _ (Below.refl _ _) HI.out rfl
  · intro L a wx Q' hL hi H F hK
    try dsimp only at hi
    have h2 : a.tmps[2]? = some (.pointer (some ⟨w.heap.size, 0, none⟩)) := F 2 rfl
    have HI := Lib.hid hi
    clear H F hi hL
    go_wp2_with fail
    exact hK _ _ (Below.refl _ _) HI.out rfl
  · intro L a wx Q' hL hi H F hK
    try dsimp only at hi
    obtain ⟨_, h11, rfl⟩ := H 2 ⟨.data, by simp, rfl⟩ _ rfl
    replace h11 := h11 _ rfl
    have HI := Lib.hid hi
    clear H F hi hL
    have kq0 : wx.cell? ⟨w.heap.size, 2, none⟩ = some (.slice (some ⟨kb, ko, none⟩) s.D.length kc) := (Whole.under HI.out HSBw3.out (by have := HN0.out; have := HQw3.out; omega)).cell 2
    go_wp2_with fail
    exact hK _ _ (Below.refl _ _) HI.out rfl
  · intro L a wx Q' hL hi H F hK
    try dsimp only at hi
    have h1 : a.tmps[1]? = some (.int .i64 (q : Nat)) := F 1 rfl
    have HI := Lib.hid hi
    clear H F hi hL
    go_wp2_with fail
    exact hK _ _ (Below.refl _ _) HI.out rfl
  · intro L a wx Q' hL hi H F hK
    try dsimp only at hi
    obtain ⟨_, h12, rfl⟩ := H 3 ⟨.data, by simp, rfl⟩ _ rfl
    replace h12 := h12 _ rfl
    obtain ⟨_, h13, rfl⟩ := H 4 ⟨.data, by simp, rfl⟩ _ rfl
    replace h13 := h13 _ rfl
    have HI := Lib.hid hi
    clear H F hi hL
    go_wp2_with fail
    exact hK _ _ (Below.refl _ _) HI.out rfl
  · intro L a wx Q' hL hi H F hK
    try dsimp only at hi
    obtain ⟨_, h10, rfl⟩ := H 1 ⟨.data, by simp, rfl⟩ _ rfl
    replace h10 := h10 _ rfl
    obtain ⟨_, h14, rfl⟩ := H 5 ⟨.data, by simp, rfl⟩ _ rfl
    replace h14 := h14 _ rfl
    have HI := Lib.hid hi
    clear H F hi hL
    have HI1 := Lib.hid HI.out
    have hr0 := World.ownsRow_nil wx (wo.heap.size + 1) 41 3
    obtain ⟨v', w', hap, hown, hgr⟩ := append_more (P := Try.prog) 26 Try.underlying26 info41 (by decide) (by decide) wx ((wo.heap.size + 1)) (.slice none 0 0) 0 [] hr0 (.slice (some ⟨kb, ko, none⟩) q kc) q ((flat s.keys).take (q * 3)) ((HRF.out.keys.keep (HBw3.out.trans (HI1.out.mono (by have := HN0.out; have := HQw3.out; omega)))).front (by omega)) (by have := HBIG.out; omega) (by have := HI1.out.size; have := HQw3.out; omega)
    refine Lib.wpList_append_run _ rfl _ _ _ _ rfl (.slice none 0 0) (.slice (some ⟨kb, ko, none⟩) q kc) (by simp [Act.eval, *]) (by simp [Act.eval, *]) _ _ hap ?_
    exact hK v' w' (show KeepAll _ _ _ _ _ _ _ _ from ⟨(fun _ _ _ _ h => h), (fun _ _ _ _ h => h), (fun _ _ _ _ h => h), (fun _ _ _ _ h => h), (fun _ _ _ _ h => h), (fun _ _ _ _ h => h), (fun h => absurd rfl h), (fun _ _ _ _ h => h), trivial⟩) (HI.out.trans ⟨hgr.os, hgr.tape, hgr.output, hgr.size, fun k h1 => hgr.block k (by have := HI1.out.size; have := HQw3.out; omega) (by intro e; have := (hr0.lt _ e.symm).1; omega)⟩) hown
  · intro L a wx Q' hL hi H F hK
    try dsimp only at hi
    have h5 : a.tmps[5]? = some (.pointer (some ⟨wo.heap.size, 0, none⟩)) := F 5 rfl
    have HI := Lib.hid hi
    clear H F hi hL
    go_wp2_with fail
    exact hK _ _ (Below.refl _ _) HI.out rfl
  · intro a wx L hl hi hL Q' hK
    try dsimp only at hi
    have HB := Lib.hid hi
    clear hi hL
    obtain ⟨_, rfl, _, rfl, _, rfl, _, rfl, _, rfl, _, rfl, u15, hu15, _, rfl, rfl⟩ := hl
    have HU15 := Lib.hid hu15
    clear hu15
    simp only [List.setIfInBounds_toArray, List.set_cons_zero, List.set_cons_succ]
    have HB1 := Lib.hid HB.out
    clear HB
    obtain ⟨xa3, xm3, xc3, hx⟩ := row_shape HU15.out
    subst hx
    have HX3 := Lib.hid (Whole.under HB1.out HWw3.out (by have := HN0.out; have := HQw3.out; omega))
    have HSBX := Lib.hid (Whole.under HB1.out HSBw3.out (by have := HN0.out; have := HQw3.out; omega))
    have HSZX := Lib.hid (Whole.under HB1.out HSZw3.out (by have := HN0.out; have := HQw3.out; omega))
    go_wp2_with (first | (refine wpList_store_blk rfl 26 _ _ rfl (wo.heap.size) 2 (.slice xa3 xm3 xc3) rfl rfl 29 _ HX3.out (by simp [Value.cells]) size26 rfl ?_; intro w13 S13 W13; have HS13 := Lib.hid S13; have HW13 := Lib.hid (show Whole w13 (wo.heap.size) 29 #[.int .i64 s.size, .int .i64 s.seq, .slice xa3 xm3 xc3, .slice none 0 0, .int .i64 s.h, .int .i64 s.m, .int .i64 s.e, .int .i64 s.r] from W13); clear S13 W13))
    have HO3 := Lib.hid (HS13.out.own HU15.out (own_far HU15.out (by have := HN0.out; have := HQw3.out; omega)))
    have HWw13 := HW13
    have HSBw13 := Lib.hid (HS13.out.whole HSBX.out (by have := HN0.out; omega))
    have HSZw13 := Lib.hid (HS13.out.whole HSZX.out (by have := HN0.out; omega))
    have HBw13 := Lib.hid (HBw3.out.trans ((HB1.out.mono (by have := HN0.out; have := HQw3.out; omega)).trans (HS13.out.below (by have := HN0.out; omega))))
    have HQw13 := Lib.hid (show wo.heap.size + 1 ≤ w13.heap.size ∧ w3.heap.size ≤ w13.heap.size from ⟨HW13.out.lt, by have := HB1.out.size; have := HS13.out.size; omega⟩)
    clear HS13 HB1 HX3 HSBX HSZX HU15 HWw3 HSBw3 HSZw3 HBw3 HQw3
    refine wp_region_goods [some 17, some 18, some 19, some 20, some 21, some 22, some 23, some 24, some 25] [isW (.pointer (some ⟨wo.heap.size, 2, none⟩)), isW (.slice xa3 xm3 xc3), isW (.pointer (some ⟨w.heap.size, 2, none⟩)), isW (.slice (some ⟨kb, ko, none⟩) s.D.length kc), isW (.int .i64 (q : Nat)), isW (.int .i64 ((q : Int) + 1)), isW (.slice (some KA) (s.D.length - (q + 1)) (kc - (q + 1))), fun _ u w' => w'.ownsRow (wo.heap.size + 1) 41 3 u ((0 + q) + (s.D.length - (q + 1))) (([] ++ ((flat s.keys).take (q * 3))) ++ ((flat s.keys).drop ((q + 1) * 3))), isW (.pointer (some ⟨wo.heap.size, 2, none⟩))] (fun L w' => Below (wo.heap.size + 1) w13 w' ∧ (L 7 = false → w'.ownsRow (wo.heap.size + 1) 41 3 (.slice xa3 xm3 xc3) (0 + q) ([] ++ ((flat s.keys).take (q * 3))))) [7] (by kernel_rfl) (by kernel_rfl) (by kernel_rfl) rfl (by decide) rfl rfl (⟨(Below.refl _ _).drew, fun _ => HO3.out.kept (row := none) ⟨rfl, rfl, rfl, Nat.le_refl _, fun _ _ _ => rfl⟩ (Classical.em _)⟩) ⟨lastsW_is _, lastsW_is _, lastsW_is _, lastsW_is _, lastsW_is _, lastsW_is _, lastsW_is _, (fun L i v w' w'' hi h hb => h.kept (row := none) ⟨hb.os, hb.tape, hb.output, hb.size, fun k h1 _ => hb.block k h1⟩ (by cases v.ownBlock <;> simp)), lastsW_is _, trivial⟩ ⟨?_, ?_, ?_, ?_, ?_, ?_, ?_, ?_, ?_, ?_⟩
    · intro L a wx Q' hL hi H F hK
      try dsimp only at hi
      have h5 : a.tmps[5]? = some (.pointer (some ⟨wo.heap.size, 0, none⟩)) := F 5 rfl
      have HI := Lib.hid hi
      clear H F hi hL
      go_wp2_with fail
      exact hK _ _ (Below.refl _ _) HI.out rfl
    · intro L a wx Q' hL hi H F hK
      try dsimp only at hi
      obtain ⟨_, h17, rfl⟩ := H 0 ⟨.data, by simp, rfl⟩ _ rfl
      replace h17 := h17 _ rfl
      have HI := Lib.hid hi
      clear H F hi hL
      have kq0 : wx.cell? ⟨wo.heap.size, 2, none⟩ = some (.slice xa3 xm3 xc3) := (Whole.under HI.out.1 HWw13.out (by have := HN0.out; have := HQw13.out; omega)).cell 2
      go_wp2_with fail
      exact hK _ _ (Below.refl _ _) HI.out rfl
    · intro L a wx Q' hL hi H F hK
      try dsimp only at hi
      have h2 : a.tmps[2]? = some (.pointer (some ⟨w.heap.size, 0, none⟩)) := F 2 rfl
      have HI := Lib.hid hi
      clear H F hi hL
      go_wp2_with fail
      exact hK _ _ (Below.refl _ _) HI.out rfl
    · intro L a wx Q' hL hi H F hK
      try dsimp only at hi
      obtain ⟨_, h19, rfl⟩ := H 2 ⟨.data, by simp, rfl⟩ _ rfl
      replace h19 := h19 _ rfl
      have HI := Lib.hid hi
      clear H F hi hL
      have kq0 : wx.cell? ⟨w.heap.size, 2, none⟩ = some (.slice (some ⟨kb, ko, none⟩) s.D.length kc) := (Whole.under HI.out.1 HSBw13.out (by have := HN0.out; have := HQw13.out; omega)).cell 2
      go_wp2_with fail
      exact hK _ _ (Below.refl _ _) HI.out rfl
    · intro L a wx Q' hL hi H F hK
      try dsimp only at hi
      have h1 : a.tmps[1]? = some (.int .i64 (q : Nat)) := F 1 rfl
      have HI := Lib.hid hi
      clear H F hi hL
      go_wp2_with fail
      exact hK _ _ (Below.refl _ _) HI.out rfl
    · intro L a wx Q' hL hi H F hK
      try dsimp only at hi
      obtain ⟨_, h21, rfl⟩ := H 4 ⟨.data, by simp, rfl⟩ _ rfl
      replace h21 := h21 _ rfl
      have HI := Lib.hid hi
      clear H F hi hL
      go_wp2_with fail
      exact hK _ _ (Below.refl _ _) HI.out rfl
    · intro L a wx Q' hL hi H F hK
      try dsimp only at hi
      obtain ⟨_, h20, rfl⟩ := H 3 ⟨.data, by simp, rfl⟩ _ rfl
      replace h20 := h20 _ rfl
      obtain ⟨_, h22, rfl⟩ := H 5 ⟨.data, by simp, rfl⟩ _ rfl
      replace h22 := h22 _ rfl
      have HI := Lib.hid hi
      clear H F hi hL
      have hA := HKA.out
      go_wp2_with fail
      exact hK _ _ (Below.refl _ _) HI.out rfl
    · intro L a wx Q' hL hi H F hK
      try dsimp only at hi
      obtain ⟨_, h18, rfl⟩ := H 1 ⟨.data, by simp, rfl⟩ _ rfl
      replace h18 := h18 _ rfl
      obtain ⟨_, h23, rfl⟩ := H 6 ⟨.data, by simp, rfl⟩ _ rfl
      replace h23 := h23 _ rfl
      have HI := Lib.hid hi
      clear H F hi
      have HI1 := Lib.hid HI.out.1
      have hr0 := HI.out.2 hL
      obtain ⟨v', w', hap, hown, hgr⟩ := append_more (P := Try.prog) 26 Try.underlying26 info41 (by decide) (by decide) wx ((wo.heap.size + 1)) (.slice xa3 xm3 xc3) (0 + q) ([] ++ ((flat s.keys).take (q * 3))) hr0 (.slice (some KA) (s.D.length - (q + 1)) (kc - (q + 1))) (s.D.length - (q + 1)) ((flat s.keys).drop ((q + 1) * 3)) ((HRF.out.keys.keep (HBw13.out.trans (HI1.out.mono (by have := HN0.out; have := HQw13.out; omega)))).back HKA.out (by omega)) (by have := HBIG.out; omega) (by have := HI1.out.size; have := HQw13.out; omega)
      refine Lib.wpList_append_run _ rfl _ _ _ _ rfl (.slice xa3 xm3 xc3) (.slice (some KA) (s.D.length - (q + 1)) (kc - (q + 1))) (by simp [Act.eval, *]) (by simp [Act.eval, *]) _ _ hap ?_
      exact hK v' w' (show KeepAll _ _ _ _ _ _ _ _ from ⟨(fun _ _ _ _ h => h), (fun _ _ _ _ h => h), (fun _ _ _ _ h => h), (fun _ _ _ _ h => h), (fun _ _ _ _ h => h), (fun _ _ _ _ h => h), (fun _ _ _ _ h => h), (fun h => absurd rfl h), (fun _ _ _ _ h => h), trivial⟩) ⟨(HI.out.1.trans ⟨hgr.os, hgr.tape, hgr.output, hgr.size, fun k h1 => hgr.block k (by have := HI1.out.size; have := HQw13.out; omega) (by intro e; have := (hr0.lt _ e.symm).1; omega)⟩), fun h => by simp [upd] at h⟩ hown
    · intro L a wx Q' hL hi H F hK
      try dsimp only at hi
      have h5 : a.tmps[5]? = some (.pointer (some ⟨wo.heap.size, 0, none⟩)) := F 5 rfl
      have HI := Lib.hid hi
      clear H F hi hL
      go_wp2_with fail
      exact hK _ _ (Below.refl _ _) HI.out rfl
    · intro a wx L hl hi hL Q' hK
      try dsimp only at hi
      have HB := Lib.hid hi
      clear hi hL
      obtain ⟨_, rfl, _, rfl, _, rfl, _, rfl, _, rfl, _, rfl, _, rfl, u24, hu24, _, rfl, rfl⟩ := hl
      have HU24 := Lib.hid hu24
      clear hu24
      simp only [List.setIfInBounds_toArray, List.set_cons_zero, List.set_cons_succ]
      have HB1 := Lib.hid HB.out.1
      clear HB
      obtain ⟨xa4, xm4, xc4, hx⟩ := row_shape HU24.out
      subst hx
      have HX4 := Lib.hid (Whole.under HB1.out HWw13.out (by have := HN0.out; have := HQw13.out; omega))
      have HSBX := Lib.hid (Whole.under HB1.out HSBw13.out (by have := HN0.out; have := HQw13.out; omega))
      have HSZX := Lib.hid (Whole.under HB1.out HSZw13.out (by have := HN0.out; have := HQw13.out; omega))
      go_wp2_with (first | (refine wpList_store_blk rfl 26 _ _ rfl (wo.heap.size) 2 (.slice xa4 xm4 xc4) rfl rfl 29 _ HX4.out (by simp [Value.cells]) size26 rfl ?_; intro w14 S14 W14; have HS14 := Lib.hid S14; have HW14 := Lib.hid (show Whole w14 (wo.heap.size) 29 #[.int .i64 s.size, .int .i64 s.seq, .slice xa4 xm4 xc4, .slice none 0 0, .int .i64 s.h, .int .i64 s.m, .int .i64 s.e, .int .i64 s.r] from W14); clear S14 W14))
      have HO4 := Lib.hid (HS14.out.own HU24.out (own_far HU24.out (by have := HN0.out; have := HQw13.out; omega)))
      have HWw14 := HW14
      have HSBw14 := Lib.hid (HS14.out.whole HSBX.out (by have := HN0.out; omega))
      have HSZw14 := Lib.hid (HS14.out.whole HSZX.out (by have := HN0.out; omega))
      have HBw14 := Lib.hid (HBw13.out.trans ((HB1.out.mono (by have := HN0.out; have := HQw13.out; omega)).trans (HS14.out.below (by have := HN0.out; omega))))
      have HQw14 := Lib.hid (show wo.heap.size + 1 ≤ w14.heap.size ∧ w13.heap.size ≤ w14.heap.size from ⟨HW14.out.lt, by have := HB1.out.size; have := HS14.out.size; omega⟩)
      clear HS14 HB1 HX4 HSBX HSZX HU24 HWw13 HSBw13 HSZw13 HBw13 HQw13
      have HKw14 := Lib.hid (SliceAt.of_own HO4.out (by intro u hu; rcases List.mem_append.1 hu with h | h; (rcases List.mem_append.1 h with h | h; (cases h); (exact flat_one _ u (List.mem_of_mem_take h))); (exact flat_one _ u (List.mem_of_mem_drop h))))
      have HKF := Lib.hid (show ∀ g, (Value.slice xa4 xm4 xc4).ownBlock = some g → wo.heap.size + 1 ≤ g ∧ g < w14.heap.size from fun g e => HO4.out.lt g e)
      have HQ14 := HQw14
      clear HO4 HO3
      refine wp_region_goods [some 26, some 27, some 28, some 29, some 30, some 31, some 32, some 33] [isW (.pointer (some ⟨wo.heap.size, 3, none⟩)), isW (.slice none 0 0), isW (.pointer (some ⟨w.heap.size, 3, none⟩)), isW (.slice (some ⟨db, do', none⟩) s.D.length dc), isW (.int .i64 (q : Nat)), isW (.slice (some ⟨db, do', none⟩) q dc), fun _ u w' => w'.ownsRow w14.heap.size 46 5 u (0 + q) ([] ++ (((s.D.map Prod.snd).flatMap Dec.row).take (q * 5))), isW (.pointer (some ⟨wo.heap.size, 3, none⟩))] (fun L w' => Below w14.heap.size w14 w') [6] (by kernel_rfl) (by kernel_rfl) (by kernel_rfl) rfl (by decide) rfl rfl ((Below.refl _ _).drew) ⟨lastsW_is _, lastsW_is _, lastsW_is _, lastsW_is _, lastsW_is _, lastsW_is _, (fun L i v w' w'' hi h hb => h.kept (row := none) ⟨hb.os, hb.tape, hb.output, hb.size, fun k h1 _ => hb.block k h1⟩ (by cases v.ownBlock <;> simp)), lastsW_is _, trivial⟩ ⟨?_, ?_, ?_, ?_, ?_, ?_, ?_, ?_, ?_⟩
      · intro L a wx Q' hL hi H F hK
        try dsimp only at hi
        have h5 : a.tmps[5]? = some (.pointer (some ⟨wo.heap.size, 0, none⟩)) := F 5 rfl
        have HI := Lib.hid hi
        clear H F hi hL
        go_wp2_with fail
        exact hK _ _ (Below.refl _ _) HI.out rfl
      · intro L a wx Q' hL hi H F hK
        try dsimp only at hi
        obtain ⟨_, h26, rfl⟩ := H 0 ⟨.data, by simp, rfl⟩ _ rfl
        replace h26 := h26 _ rfl
        have HI := Lib.hid hi
        clear H F hi hL
        have kq0 : wx.cell? ⟨wo.heap.size, 3, none⟩ = some (.slice none 0 0) := (Whole.under HI.out HWw14.out (by have := HN0.out; have := HQw14.out; omega)).cell 3
        go_wp2_with fail
        exact hK _ _ (Below.refl _ _) HI.out rfl
      · intro L a wx Q' hL hi H F hK
        try dsimp only at hi
        have h2 : a.tmps[2]? = some (.pointer (some ⟨w.heap.size, 0, none⟩)) := F 2 rfl
        have HI := Lib.hid hi
        clear H F hi hL
        go_wp2_with fail
        exact hK _ _ (Below.refl _ _) HI.out rfl
      · intro L a wx Q' hL hi H F hK
        try dsimp only at hi
        obtain ⟨_, h28, rfl⟩ := H 2 ⟨.data, by simp, rfl⟩ _ rfl
        replace h28 := h28 _ rfl
        have HI := Lib.hid hi
        clear H F hi hL
        have kq0 : wx.cell? ⟨w.heap.size, 3, none⟩ = some (.slice (some ⟨db, do', none⟩) s.D.length dc) := (Whole.under HI.out HSBw14.out (by have := HN0.out; have := HQw14.out; omega)).cell 3
        go_wp2_with fail
        exact hK _ _ (Below.refl _ _) HI.out rfl
      · intro L a wx Q' hL hi H F hK
        try dsimp only at hi
        have h1 : a.tmps[1]? = some (.int .i64 (q : Nat)) := F 1 rfl
        have HI := Lib.hid hi
        clear H F hi hL
        go_wp2_with fail
        exact hK _ _ (Below.refl _ _) HI.out rfl
      · intro L a wx Q' hL hi H F hK
        try dsimp only at hi
        obtain ⟨_, h29, rfl⟩ := H 3 ⟨.data, by simp, rfl⟩ _ rfl
        replace h29 := h29 _ rfl
        obtain ⟨_, h30, rfl⟩ := H 4 ⟨.data, by simp, rfl⟩ _ rfl
        replace h30 := h30 _ rfl
        have HI := Lib.hid hi
        clear H F hi hL
        go_wp2_with fail
        exact hK _ _ (Below.refl _ _) HI.out rfl
      · intro L a wx Q' hL hi H F hK
        try dsimp only at hi
        obtain ⟨_, h27, rfl⟩ := H 1 ⟨.data, by simp, rfl⟩ _ rfl
        replace h27 := h27 _ rfl
        obtain ⟨_, h31, rfl⟩ := H 5 ⟨.data, by simp, rfl⟩ _ rfl
        replace h31 := h31 _ rfl
        have HI := Lib.hid hi
        clear H F hi hL
        have HI1 := Lib.hid HI.out
        have hr0 := World.ownsRow_nil wx w14.heap.size 46 5
        obtain ⟨v', w', hap, hown, hgr⟩ := append_more (P := Try.prog) 27 Try.underlying27 info46 (by decide) (by decide) wx (w14.heap.size) (.slice none 0 0) 0 [] hr0 (.slice (some ⟨db, do', none⟩) q dc) q (((s.D.map Prod.snd).flatMap Dec.row).take (q * 5)) ((HRF.out.decs.keep (HBw14.out.trans (HI1.out.mono (by have := HN0.out; have := HQw14.out; omega)))).front (by omega)) (by have := HBIG.out; omega) (by have := HI1.out.size; have := HQw14.out; omega)
        refine Lib.wpList_append_run _ rfl _ _ _ _ rfl (.slice none 0 0) (.slice (some ⟨db, do', none⟩) q dc) (by simp [Act.eval, *]) (by simp [Act.eval, *]) _ _ hap ?_
        exact hK v' w' (show KeepAll _ _ _ _ _ _ _ _ from ⟨(fun _ _ _ _ h => h), (fun _ _ _ _ h => h), (fun _ _ _ _ h => h), (fun _ _ _ _ h => h), (fun _ _ _ _ h => h), (fun _ _ _ _ h => h), (fun h => absurd rfl h), (fun _ _ _ _ h => h), trivial⟩) (HI.out.trans ⟨hgr.os, hgr.tape, hgr.output, hgr.size, fun k h1 => hgr.block k (by have := HI1.out.size; have := HQw14.out; omega) (by intro e; have := (hr0.lt _ e.symm).1; omega)⟩) hown
      · intro L a wx Q' hL hi H F hK
        try dsimp only at hi
        have h5 : a.tmps[5]? = some (.pointer (some ⟨wo.heap.size, 0, none⟩)) := F 5 rfl
        have HI := Lib.hid hi
        clear H F hi hL
        go_wp2_with fail
        exact hK _ _ (Below.refl _ _) HI.out rfl
      · intro a wx L hl hi hL Q' hK
        try dsimp only at hi
        have HB := Lib.hid hi
        clear hi hL
        obtain ⟨_, rfl, _, rfl, _, rfl, _, rfl, _, rfl, _, rfl, u32, hu32, _, rfl, rfl⟩ := hl
        have HU32 := Lib.hid hu32
        clear hu32
        simp only [List.setIfInBounds_toArray, List.set_cons_zero, List.set_cons_succ]
        have HB1 := Lib.hid HB.out
        clear HB
        obtain ⟨xa5, xm5, xc5, hx⟩ := row_shape HU32.out
        subst hx
        have HX5 := Lib.hid (Whole.under HB1.out HWw14.out (by have := HN0.out; have := HQw14.out; omega))
        have HSBX := Lib.hid (Whole.under HB1.out HSBw14.out (by have := HN0.out; have := HQw14.out; omega))
        have HSZX := Lib.hid (Whole.under HB1.out HSZw14.out (by have := HN0.out; have := HQw14.out; omega))
        have HKX := Lib.hid (HKw14.out.keepB HB1.out fun g e => (HKF.out g e).2)
        go_wp2_with (first | (refine wpList_store_blk rfl 27 _ _ rfl (wo.heap.size) 3 (.slice xa5 xm5 xc5) rfl rfl 29 _ HX5.out (by simp [Value.cells]) size27 rfl ?_; intro w15 S15 W15; have HS15 := Lib.hid S15; have HW15 := Lib.hid (show Whole w15 (wo.heap.size) 29 #[.int .i64 s.size, .int .i64 s.seq, .slice xa4 xm4 xc4, .slice xa5 xm5 xc5, .int .i64 s.h, .int .i64 s.m, .int .i64 s.e, .int .i64 s.r] from W15); clear S15 W15))
        have HO5 := Lib.hid (HS15.out.own HU32.out (own_far HU32.out (by have := HN0.out; have := HQw14.out; omega)))
        have HWw15 := HW15
        have HSBw15 := Lib.hid (HS15.out.whole HSBX.out (by have := HN0.out; omega))
        have HSZw15 := Lib.hid (HS15.out.whole HSZX.out (by have := HN0.out; omega))
        have HBw15 := Lib.hid (HBw14.out.trans ((HB1.out.mono (by have := HN0.out; have := HQw14.out; omega)).trans (HS15.out.below (by have := HN0.out; omega))))
        have HQw15 := Lib.hid (show wo.heap.size + 1 ≤ w15.heap.size ∧ w14.heap.size ≤ w15.heap.size from ⟨HW15.out.lt, by have := HB1.out.size; have := HS15.out.size; omega⟩)
        have HKw15 := Lib.hid (HS15.out.slice HKX.out (by intro e; have := HKF.out _ e; omega))
        clear HS15 HB1 HX5 HSBX HSZX HU32 HWw14 HSBw14 HSZw14 HBw14 HQw14
        refine wp_region_goods [some 34, some 35, some 36, some 37, some 38, some 39, some 40, some 41, some 42] [isW (.pointer (some ⟨wo.heap.size, 3, none⟩)), isW (.slice xa5 xm5 xc5), isW (.pointer (some ⟨w.heap.size, 3, none⟩)), isW (.slice (some ⟨db, do', none⟩) s.D.length dc), isW (.int .i64 (q : Nat)), isW (.int .i64 ((q : Int) + 1)), isW (.slice (some DA) (s.D.length - (q + 1)) (dc - (q + 1))), fun _ u w' => w'.ownsRow w14.heap.size 46 5 u ((0 + q) + (s.D.length - (q + 1))) (([] ++ (((s.D.map Prod.snd).flatMap Dec.row).take (q * 5))) ++ (((s.D.map Prod.snd).flatMap Dec.row).drop ((q + 1) * 5))), isW (.pointer (some ⟨wo.heap.size, 3, none⟩))] (fun L w' => Below w14.heap.size w15 w' ∧ (L 7 = false → w'.ownsRow w14.heap.size 46 5 (.slice xa5 xm5 xc5) (0 + q) ([] ++ (((s.D.map Prod.snd).flatMap Dec.row).take (q * 5))))) [7] (by kernel_rfl) (by kernel_rfl) (by kernel_rfl) rfl (by decide) rfl rfl (⟨(Below.refl _ _).drew, fun _ => HO5.out.kept (row := none) ⟨rfl, rfl, rfl, Nat.le_refl _, fun _ _ _ => rfl⟩ (Classical.em _)⟩) ⟨lastsW_is _, lastsW_is _, lastsW_is _, lastsW_is _, lastsW_is _, lastsW_is _, lastsW_is _, (fun L i v w' w'' hi h hb => h.kept (row := none) ⟨hb.os, hb.tape, hb.output, hb.size, fun k h1 _ => hb.block k h1⟩ (by cases v.ownBlock <;> simp)), lastsW_is _, trivial⟩ ⟨?_, ?_, ?_, ?_, ?_, ?_, ?_, ?_, ?_, ?_⟩
        · intro L a wx Q' hL hi H F hK
          try dsimp only at hi
          have h5 : a.tmps[5]? = some (.pointer (some ⟨wo.heap.size, 0, none⟩)) := F 5 rfl
          have HI := Lib.hid hi
          clear H F hi hL
          go_wp2_with fail
          exact hK _ _ (Below.refl _ _) HI.out rfl
        · intro L a wx Q' hL hi H F hK
          try dsimp only at hi
          obtain ⟨_, h34, rfl⟩ := H 0 ⟨.data, by simp, rfl⟩ _ rfl
          replace h34 := h34 _ rfl
          have HI := Lib.hid hi
          clear H F hi hL
          have kq0 : wx.cell? ⟨wo.heap.size, 3, none⟩ = some (.slice xa5 xm5 xc5) := (Whole.under HI.out.1 HWw15.out (by have := HN0.out; have := HQw15.out; have := HQ14.out; omega)).cell 3
          go_wp2_with fail
          exact hK _ _ (Below.refl _ _) HI.out rfl
        · intro L a wx Q' hL hi H F hK
          try dsimp only at hi
          have h2 : a.tmps[2]? = some (.pointer (some ⟨w.heap.size, 0, none⟩)) := F 2 rfl
          have HI := Lib.hid hi
          clear H F hi hL
          go_wp2_with fail
          exact hK _ _ (Below.refl _ _) HI.out rfl
        · intro L a wx Q' hL hi H F hK
          try dsimp only at hi
          obtain ⟨_, h36, rfl⟩ := H 2 ⟨.data, by simp, rfl⟩ _ rfl
          replace h36 := h36 _ rfl
          have HI := Lib.hid hi
          clear H F hi hL
          have kq0 : wx.cell? ⟨w.heap.size, 3, none⟩ = some (.slice (some ⟨db, do', none⟩) s.D.length dc) := (Whole.under HI.out.1 HSBw15.out (by have := HN0.out; have := HQw15.out; have := HQ14.out; omega)).cell 3
          go_wp2_with fail
          exact hK _ _ (Below.refl _ _) HI.out rfl
        · intro L a wx Q' hL hi H F hK
          try dsimp only at hi
          have h1 : a.tmps[1]? = some (.int .i64 (q : Nat)) := F 1 rfl
          have HI := Lib.hid hi
          clear H F hi hL
          go_wp2_with fail
          exact hK _ _ (Below.refl _ _) HI.out rfl
        · intro L a wx Q' hL hi H F hK
          try dsimp only at hi
          obtain ⟨_, h38, rfl⟩ := H 4 ⟨.data, by simp, rfl⟩ _ rfl
          replace h38 := h38 _ rfl
          have HI := Lib.hid hi
          clear H F hi hL
          go_wp2_with fail
          exact hK _ _ (Below.refl _ _) HI.out rfl
        · intro L a wx Q' hL hi H F hK
          try dsimp only at hi
          obtain ⟨_, h37, rfl⟩ := H 3 ⟨.data, by simp, rfl⟩ _ rfl
          replace h37 := h37 _ rfl
          obtain ⟨_, h39, rfl⟩ := H 5 ⟨.data, by simp, rfl⟩ _ rfl
          replace h39 := h39 _ rfl
          have HI := Lib.hid hi
          clear H F hi hL
          have hA := HDA.out
          go_wp2_with fail
          exact hK _ _ (Below.refl _ _) HI.out rfl
        · intro L a wx Q' hL hi H F hK
          try dsimp only at hi
          obtain ⟨_, h35, rfl⟩ := H 1 ⟨.data, by simp, rfl⟩ _ rfl
          replace h35 := h35 _ rfl
          obtain ⟨_, h40, rfl⟩ := H 6 ⟨.data, by simp, rfl⟩ _ rfl
          replace h40 := h40 _ rfl
          have HI := Lib.hid hi
          clear H F hi
          have HI1 := Lib.hid HI.out.1
          have hr0 := HI.out.2 hL
          obtain ⟨v', w', hap, hown, hgr⟩ := append_more (P := Try.prog) 27 Try.underlying27 info46 (by decide) (by decide) wx (w14.heap.size) (.slice xa5 xm5 xc5) (0 + q) ([] ++ (((s.D.map Prod.snd).flatMap Dec.row).take (q * 5))) hr0 (.slice (some DA) (s.D.length - (q + 1)) (dc - (q + 1))) (s.D.length - (q + 1)) (((s.D.map Prod.snd).flatMap Dec.row).drop ((q + 1) * 5)) ((HRF.out.decs.keep (HBw15.out.trans (HI1.out.mono (by have := HN0.out; have := HQw15.out; have := HQ14.out; omega)))).back HDA.out (by omega)) (by have := HBIG.out; omega) (by have := HI1.out.size; have := HQw15.out; omega)
          refine Lib.wpList_append_run _ rfl _ _ _ _ rfl (.slice xa5 xm5 xc5) (.slice (some DA) (s.D.length - (q + 1)) (dc - (q + 1))) (by simp [Act.eval, *]) (by simp [Act.eval, *]) _ _ hap ?_
          exact hK v' w' (show KeepAll _ _ _ _ _ _ _ _ from ⟨(fun _ _ _ _ h => h), (fun _ _ _ _ h => h), (fun _ _ _ _ h => h), (fun _ _ _ _ h => h), (fun _ _ _ _ h => h), (fun _ _ _ _ h => h), (fun _ _ _ _ h => h), (fun h => absurd rfl h), (fun _ _ _ _ h => h), trivial⟩) ⟨(HI.out.1.trans ⟨hgr.os, hgr.tape, hgr.output, hgr.size, fun k h1 => hgr.block k (by have := HI1.out.size; have := HQw15.out; omega) (by intro e; have := (hr0.lt _ e.symm).1; omega)⟩), fun h => by simp [upd] at h⟩ hown
        · intro L a wx Q' hL hi H F hK
          try dsimp only at hi
          have h5 : a.tmps[5]? = some (.pointer (some ⟨wo.heap.size, 0, none⟩)) := F 5 rfl
          have HI := Lib.hid hi
          clear H F hi hL
          go_wp2_with fail
          exact hK _ _ (Below.refl _ _) HI.out rfl
        · intro a wx L hl hi hL Q' hK
          try dsimp only at hi
          have HB := Lib.hid hi
          clear hi hL
          obtain ⟨_, rfl, _, rfl, _, rfl, _, rfl, _, rfl, _, rfl, _, rfl, u41, hu41, _, rfl, rfl⟩ := hl
          have HU41 := Lib.hid hu41
          clear hu41
          simp only [List.setIfInBounds_toArray, List.set_cons_zero, List.set_cons_succ]
          have HB1 := Lib.hid HB.out.1
          clear HB
          obtain ⟨xa6, xm6, xc6, hx⟩ := row_shape HU41.out
          subst hx
          have HX6 := Lib.hid (Whole.under HB1.out HWw15.out (by have := HN0.out; have := HQw15.out; have := HQ14.out; omega))
          have HSBX := Lib.hid (Whole.under HB1.out HSBw15.out (by have := HN0.out; have := HQw15.out; have := HQ14.out; omega))
          have HSZX := Lib.hid (Whole.under HB1.out HSZw15.out (by have := HN0.out; have := HQw15.out; have := HQ14.out; omega))
          have HKX := Lib.hid (HKw15.out.keepB HB1.out fun g e => (HKF.out g e).2)
          go_wp2_with (first | (refine wpList_store_blk rfl 27 _ _ rfl (wo.heap.size) 3 (.slice xa6 xm6 xc6) rfl rfl 29 _ HX6.out (by simp [Value.cells]) size27 rfl ?_; intro w16 S16 W16; have HS16 := Lib.hid S16; have HW16 := Lib.hid (show Whole w16 (wo.heap.size) 29 #[.int .i64 s.size, .int .i64 s.seq, .slice xa4 xm4 xc4, .slice xa6 xm6 xc6, .int .i64 s.h, .int .i64 s.m, .int .i64 s.e, .int .i64 s.r] from W16); clear S16 W16) | (refine wpList_load_row rfl 29 _ rfl (wo.heap.size) rfl 29 _ (0, 0) _ HW16.out Try.underlying29 rfl size29 ?_) | (refine wpList_store_blk rfl 29 _ _ rfl (w.heap.size + 1) 0 (.agg #[.int .i64 s.size, .int .i64 s.seq, .slice xa4 xm4 xc4, .slice xa6 xm6 xc6, .int .i64 s.h, .int .i64 s.m, .int .i64 s.e, .int .i64 s.r]) rfl rfl 29 _ (HS16.out.whole HSZX.out (by have := HN0.out; omega)) (by simp [Value.cells]) size29 rfl ?_; intro w17 S17 W17; have HS17 := Lib.hid S17; have HW17 := Lib.hid (show Whole w17 (w.heap.size + 1) 29 #[.int .i64 s.size, .int .i64 s.seq, .slice xa4 xm4 xc4, .slice xa6 xm6 xc6, .int .i64 s.h, .int .i64 s.m, .int .i64 s.e, .int .i64 s.r] from W17); clear S17 W17))
          have HO6 := Lib.hid (HS16.out.own HU41.out (own_far HU41.out (by have := HN0.out; have := HQw15.out; have := HQ14.out; omega)))
          have HWw16 := HW16
          have HSBw16 := Lib.hid (HS16.out.whole HSBX.out (by have := HN0.out; omega))
          have HSZw16 := Lib.hid (HS16.out.whole HSZX.out (by have := HN0.out; omega))
          have HBw16 := Lib.hid (HBw15.out.trans ((HB1.out.mono (by have := HN0.out; have := HQw15.out; have := HQ14.out; omega)).trans (HS16.out.below (by have := HN0.out; omega))))
          have HQw16 := Lib.hid (show wo.heap.size + 1 ≤ w16.heap.size ∧ w15.heap.size ≤ w16.heap.size from ⟨HW16.out.lt, by have := HB1.out.size; have := HS16.out.size; omega⟩)
          have HKw16 := Lib.hid (HS16.out.slice HKX.out (by intro e; have := HKF.out _ e; omega))
          clear HS16 HB1 HX6 HSBX HSZX HU41 HWw15 HSBw15 HSZw15 HBw15 HQw15
          have HD := Lib.hid (SliceAt.of_own HO6.out (by intro u hu; rcases List.mem_append.1 hu with h | h; (rcases List.mem_append.1 h with h | h; (cases h); (exact decs_one _ u (List.mem_of_mem_take h))); (exact decs_one _ u (List.mem_of_mem_drop h))))
          have HDF := Lib.hid (show ∀ g, (Value.slice xa6 xm6 xc6).ownBlock = some g → w14.heap.size ≤ g from fun g e => (HO6.out.lt g e).1)
          clear HO6 HO5 HSBw16
          have e0 : w17.cell? ⟨w.heap.size + 1, 0, none⟩ = some (.int .i64 s.size) := HW17.out.cell 0
          have e1 : w17.cell? ⟨w.heap.size + 1, 1, none⟩ = some (.int .i64 s.seq) := HW17.out.cell 1
          have e2 : w17.cell? ⟨w.heap.size + 1, 2, none⟩ = some (.slice xa4 xm4 xc4) := HW17.out.cell 2
          have e3 : w17.cell? ⟨w.heap.size + 1, 3, none⟩ = some (.slice xa6 xm6 xc6) := HW17.out.cell 3
          have e4 : w17.cell? ⟨w.heap.size + 1, 4, none⟩ = some (.int .i64 s.h) := HW17.out.cell 4
          have e5 : w17.cell? ⟨w.heap.size + 1, 5, none⟩ = some (.int .i64 s.m) := HW17.out.cell 5
          have e6 : w17.cell? ⟨w.heap.size + 1, 6, none⟩ = some (.int .i64 s.e) := HW17.out.cell 6
          have e7 : w17.cell? ⟨w.heap.size + 1, 7, none⟩ = some (.int .i64 s.r) := HW17.out.cell 7
          have hk := HS17.out.slice HKw16.out (by intro e; have := HKF.out _ e; have := HN0.out; omega)
          have hd := HS17.out.slice HD.out (by intro e; have := HDF.out _ e; have := HQ14.out; have := HN0.out; omega)
          have hbl := HBw16.out.trans (HS17.out.below (by omega))
          refine bodyPost_ret (v := .agg #[.int .i64 s.size, .int .i64 s.seq, .slice xa4 xm4 xc4, .slice xa6 xm6 xc6, .int .i64 s.h, .int .i64 s.m, .int .i64 s.e, .int .i64 s.r]) ?_ rfl ⟨_, _, rfl, ⟨?_, ?_⟩, fun g e => (by have := HKF.out _ e; have := HN0.out; omega), fun g e => (by have := HDF.out _ e; have := HQ14.out; have := HN0.out; omega), hbl⟩
          · simp [results, Try.results40, go_sem, e0, e1, e2, e3, e4, e5, e6, e7]
          · exact ref_keys s q hlt hk
          · exact ref_decs s q hlt hd
        
      
    
end Go.Proofs.Ytcdhjcjdphnleaa
