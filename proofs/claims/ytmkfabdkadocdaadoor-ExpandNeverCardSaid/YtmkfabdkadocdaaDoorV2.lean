import Derived.Test.YtmkfabdkadocdaaDoorO6
/-
  few: whether a policy has few rules and few pairs.
-/
namespace Go.Proofs.YtmkfabdkadocdaaDoor
open Go Go.WideMaps Go.RowKit Go.Sort

def fewStep (x : Int) (r : ARule) : Int := wrap64 (x + wrap64 (((elems r.src).length : Nat) * (((elems r.tgt).length : Nat) + 1)))
def fewN (l : List ARule) : Int := l.foldl fewStep 0
theorem fewN_next {l : List ARule} {i : Nat} {r : ARule} (h : l[i]? = some r) : fewN (l.take (i + 1)) = fewStep (fewN (l.take i)) r := by
  unfold fewN
  rw [take_snoc h, List.foldl_append]
  rfl
def fewB (l : List ARule) : Bool := decide (l.length ≤ 40) && decide (fewN l ≤ 400)
set_option maxRecDepth 100000 in
set_option maxHeartbeats 4000000 in
theorem few_any (w : World) (a0 a1 a2 a3 a4 a5 a6 a7 a8 v a10 a11 a12 a13 a14 a15 a16 : Value) (l : List ARule) (h : SliceAt w v 13 l.length (l.flatMap ARule.cells)) (hok : ∀ r ∈ l, r.Ok) :
    Calls Tryd.prog 14 #[.agg #[a0, a1, a2, a3, a4, a5, a6, a7, a8, v, a10, a11, a12, a13, a14, a15, a16]] w fun e w' => e = .returned (.bool (fewB l)) ∧ RowKit.Below w.heap.size w w' := by
  obtain ⟨n, hn⟩ : ∃ n, n = l.length := ⟨_, rfl⟩
  obtain ⟨a, c, rfl, hc, hmx, hcell⟩ := h.form (by decide)
  have HL := Lib.hid hn
  have HC := Lib.hid (And.intro hcell hc)
  have HOK := Lib.hid hok
  rw [← hn] at hmx hc
  unfold fewB
  simp only [← hn]
  obtain ⟨wo, hwo⟩ : ∃ wo, wo = w.alloc (.cells #[a0, a1, a2, a3, a4, a5, a6, a7, a8, .slice a n c, a10, a11, a12, a13, a14, a15, a16] 50) := ⟨_, rfl⟩
  have HBO := Lib.hid (show RowKit.Below w.heap.size w wo by rw [hwo]; exact (Below.refl _ w).alloc (Nat.le_refl _) _)
  have HWH := Lib.hid (show Whole wo w.heap.size 50 #[a0, a1, a2, a3, a4, a5, a6, a7, a8, .slice a n c, a10, a11, a12, a13, a14, a15, a16] by rw [hwo]; exact Whole.new w 50 _)
  have k9 : wo.cell? ⟨w.heap.size, 9, none⟩ = some (.slice a n c) := HWH.out.cell 9
  clear hn hcell h hok
  by_cases hbig : 40 < n
  · have hd : decide ((40 : Int) < (n : Int)) = true := by simp; omega
    have hd0 : decide (n ≤ 40) = false := by simp; omega
    rw [hd0]
    clear hbig hd0
    go_enter Tryd.func14, Tryd.ntmps14
    go_upto_region 1 with fail
    rw [← hwo]
    clear hwo
    go_wp2_with fail
    go_ret
    exact ⟨rfl, HBO.out⟩
  · have hd : decide ((40 : Int) < (n : Int)) = false := by simp; omega
    have hd0 : decide (n ≤ 40) = true := by simp; omega
    rw [hd0]
    clear hd0
    go_enter Tryd.func14, Tryd.ntmps14
    go_upto_region 1 with fail
    rw [← hwo]
    clear hwo
    go_wp2_with fail
    go_loopw [12, 3] (fun i u wr => ∃ k : Nat, k ≤ n ∧ i = .int .i64 k ∧ u = .int .i64 (fewN (l.take k)) ∧ RowKit.Below w.heap.size w wr ∧ Whole wr w.heap.size 50 #[a0, a1, a2, a3, a4, a5, a6, a7, a8, .slice a n c, a10, a11, a12, a13, a14, a15, a16]) (fun i _ _ => n - (intOf i).toNat)
    case atStart => exact ⟨0, Nat.zero_le _, rfl, rfl, HBO.out, HWH.out⟩
    case round =>
      obtain ⟨i, hi, rfl, rfl, hR, hW⟩ := hrel
      have HBR := Lib.hid hR
      have HWr := Lib.hid hW
      clear hR hW k9
      by_cases hlt : i < n
      · have hln : i < l.length := by rw [← HL.out]; exact hlt
        obtain ⟨r, hr⟩ : ∃ r, l[i]? = some r := ⟨_, List.getElem?_eq_getElem hln⟩
        have HRI := Lib.hid hr
        have HRK := Lib.hid (HOK.out r (List.mem_of_getElem? hr))
        obtain ⟨b, off, rfl, hcl⟩ := HC.out.1 i hln
        have HCL := Lib.hid hcl
        obtain ⟨x, hx⟩ : ∃ x, x = fewN (l.take i) := ⟨_, rfl⟩
        have HXX := Lib.hid hx
        obtain ⟨c1, hc1⟩ : ∃ c1, c1 = (elems r.src).length := ⟨_, rfl⟩
        have HC1 := Lib.hid hc1
        have hc1' : c1 ≤ 256 := by rw [hc1]; exact elems_len _
        obtain ⟨c2, hc2⟩ : ∃ c2, c2 = (elems r.tgt).length := ⟨_, rfl⟩
        have HC2 := Lib.hid hc2
        have hc2' : c2 ≤ 256 := by rw [hc2]; exact elems_len _
        rw [← hx]
        clear hx hc1 hc2 hr hcl hln
        go_upto_region 7 with fail
        refine wp_region_last (fun w w' => Below w.heap.size w w') [some 15, some 16, some 17, some 18, some 19, some 20, some 21, some 22, some 23, some 24, some 25, some 26, some 27, some 28, some 29, some 30, some 31, some 32] [isV (.int .i64 x), isV (.pointer (some ⟨w.heap.size, 9, none⟩)), isV (.slice (some ⟨b, off, none⟩) n c), isV (.int .i64 (i : Int)), isV (.pointer (some ⟨b, off + i * 13, none⟩)), isV (.pointer (some ⟨b, off + i * 13 + 1, none⟩)), isV (.agg #[.int .u64 r.src.a, .int .u64 r.src.b, .int .u64 r.src.c, .int .u64 r.src.d]), isV (.int .i64 (c1 : Nat)), isV (.pointer (some ⟨w.heap.size, 9, none⟩)), isV (.slice (some ⟨b, off, none⟩) n c), isV (.int .i64 (i : Int)), isV (.pointer (some ⟨b, off + i * 13, none⟩)), isV (.pointer (some ⟨b, off + i * 13 + 5, none⟩)), isV (.agg #[.int .u64 r.tgt.a, .int .u64 r.tgt.b, .int .u64 r.tgt.c, .int .u64 r.tgt.d]), isV (.int .i64 (c2 : Nat)), isV (.int .i64 ((c2 : Nat) + 1)), isV (.int .i64 (wrap64 ((c1 : Nat) * ((c2 : Nat) + 1)))), isV (.int .i64 (wrap64 (x + wrap64 ((c1 : Nat) * ((c2 : Nat) + 1)))))] (fun _ w' => RowKit.Below wr.heap.size wr w') 18 (by kernel_rfl) (by kernel_rfl) (by kernel_rfl) rfl (by decide) rfl rfl ((Below.refl _ _).drew) ⟨lasts_is _, lasts_is _, lasts_is _, lasts_is _, lasts_is _, lasts_is _, lasts_is _, lasts_is _, lasts_is _, lasts_is _, lasts_is _, lasts_is _, lasts_is _, lasts_is _, lasts_is _, lasts_is _, lasts_is _, lasts_is _, trivial⟩ ⟨(fun _ => lastsR_is _), (fun _ => lastsR_is _), (fun _ => lastsR_is _), (fun _ => lastsR_is _), (fun _ => lastsR_is _), (fun _ => lastsR_is _), (fun _ => lastsR_is _), (fun _ => lastsR_is _), (fun _ => lastsR_is _), (fun _ => lastsR_is _), (fun _ => lastsR_is _), (fun _ => lastsR_is _), (fun _ => lastsR_is _), (fun _ => lastsR_is _), (fun _ => lastsR_is _), (fun _ => lastsR_is _), (fun _ => lastsR_is _), (fun _ => lastsR_is _), trivial⟩ ⟨?_, ?_, ?_, ?_, ?_, ?_, ?_, ?_, ?_, ?_, ?_, ?_, ?_, ?_, ?_, ?_, ?_, ?_, ?_⟩
        · intro L a wx Q' hL hi H F hK
          try dsimp only at hi
          have h3 : a.tmps[3]? = some (.int .i64 x) := F 3 rfl
          have HI := Lib.hid hi
          clear H F hi hL
          go_wp2_with fail
          exact hK _ _ (Below.refl _ _) HI.out rfl
        · intro L a wx Q' hL hi H F hK
          try dsimp only at hi
          have h1 : a.tmps[1]? = some (.pointer (some ⟨w.heap.size, 0, none⟩)) := F 1 rfl
          have HI := Lib.hid hi
          clear H F hi hL
          go_wp2_with fail
          exact hK _ _ (Below.refl _ _) HI.out rfl
        · intro L a wx Q' hL hi H F hK
          try dsimp only at hi
          obtain ⟨_, h16, rfl⟩ := H 1 ⟨.data, by simp, rfl⟩ _ rfl
          replace h16 := h16 _ rfl
          have HI := Lib.hid hi
          clear H F hi hL
          have kq0 : wx.cell? ⟨w.heap.size, 9, none⟩ = some (.slice (some ⟨b, off, none⟩) n c) := (Whole.under HI.out HWr.out (Whole.lt HWr.out)).cell 9
          go_wp2_with fail
          exact hK _ _ (Below.refl _ _) HI.out rfl
        · intro L a wx Q' hL hi H F hK
          try dsimp only at hi
          have h4 : a.tmps[4]? = some (.int .i64 (i : Int)) := F 4 rfl
          have HI := Lib.hid hi
          clear H F hi hL
          go_wp2_with fail
          exact hK _ _ (Below.refl _ _) HI.out rfl
        · intro L a wx Q' hL hi H F hK
          try dsimp only at hi
          obtain ⟨_, h17, rfl⟩ := H 2 ⟨.data, by simp, rfl⟩ _ rfl
          replace h17 := h17 _ rfl
          obtain ⟨_, h18, rfl⟩ := H 3 ⟨.data, by simp, rfl⟩ _ rfl
          replace h18 := h18 _ rfl
          have HI := Lib.hid hi
          clear H F hi hL
          go_wp2_with fail
          exact hK _ _ (Below.refl _ _) HI.out rfl
        · intro L a wx Q' hL hi H F hK
          try dsimp only at hi
          obtain ⟨_, h19, rfl⟩ := H 4 ⟨.data, by simp, rfl⟩ _ rfl
          replace h19 := h19 _ rfl
          have HI := Lib.hid hi
          clear H F hi hL
          go_wp2_with fail
          exact hK _ _ (Below.refl _ _) HI.out rfl
        · intro L a wx Q' hL hi H F hK
          try dsimp only at hi
          obtain ⟨_, h20, rfl⟩ := H 5 ⟨.data, by simp, rfl⟩ _ rfl
          replace h20 := h20 _ rfl
          have HI := Lib.hid hi
          clear H F hi hL
          have kq0 : wx.cell? ⟨b, off + i * 13 + 1, none⟩ = some (.int .u64 r.src.a) := cell_later (HBR.out.trans (HI.out.mono HBR.out.size)) (HCL.out 1 _ (by rw [flat_at rule_len HRI.out 1 (by decide)]; rfl))
          have kq1 : wx.cell? ⟨b, off + i * 13 + 2, none⟩ = some (.int .u64 r.src.b) := cell_later (HBR.out.trans (HI.out.mono HBR.out.size)) (HCL.out 2 _ (by rw [flat_at rule_len HRI.out 2 (by decide)]; rfl))
          have kq2 : wx.cell? ⟨b, off + i * 13 + 3, none⟩ = some (.int .u64 r.src.c) := cell_later (HBR.out.trans (HI.out.mono HBR.out.size)) (HCL.out 3 _ (by rw [flat_at rule_len HRI.out 3 (by decide)]; rfl))
          have kq3 : wx.cell? ⟨b, off + i * 13 + 4, none⟩ = some (.int .u64 r.src.d) := cell_later (HBR.out.trans (HI.out.mono HBR.out.size)) (HCL.out 4 _ (by rw [flat_at rule_len HRI.out 4 (by decide)]; rfl))
          go_wp2_with fail
          exact hK _ _ (Below.refl _ _) HI.out rfl
        · intro L a wx Q' hL hi H F hK
          try dsimp only at hi
          obtain ⟨_, h21, rfl⟩ := H 6 ⟨.data, by simp, rfl⟩ _ rfl
          replace h21 := h21 _ rfl
          have HI := Lib.hid hi
          clear H F hi hL
          go_wp2_with (go_at_call 30; go_must (refine ((show Calls Tryd.prog 30 _ _ (fun e w' => e = .returned (.int .i64 (c1 : Nat)) ∧ RowKit.Below wx.heap.size wx w') from by rw [HC1.out]; exact rcount_any wx r.src HRK.out.src)).mono ?_; rintro e w1 ⟨rfl, hb1⟩))
          exact hK _ _ hb1 (HI.out.trans (hb1.mono HI.out.size)) rfl
        · intro L a wx Q' hL hi H F hK
          try dsimp only at hi
          have h1 : a.tmps[1]? = some (.pointer (some ⟨w.heap.size, 0, none⟩)) := F 1 rfl
          have HI := Lib.hid hi
          clear H F hi hL
          go_wp2_with fail
          exact hK _ _ (Below.refl _ _) HI.out rfl
        · intro L a wx Q' hL hi H F hK
          try dsimp only at hi
          obtain ⟨_, h23, rfl⟩ := H 8 ⟨.data, by simp, rfl⟩ _ rfl
          replace h23 := h23 _ rfl
          have HI := Lib.hid hi
          clear H F hi hL
          have kq0 : wx.cell? ⟨w.heap.size, 9, none⟩ = some (.slice (some ⟨b, off, none⟩) n c) := (Whole.under HI.out HWr.out (Whole.lt HWr.out)).cell 9
          go_wp2_with fail
          exact hK _ _ (Below.refl _ _) HI.out rfl
        · intro L a wx Q' hL hi H F hK
          try dsimp only at hi
          have h4 : a.tmps[4]? = some (.int .i64 (i : Int)) := F 4 rfl
          have HI := Lib.hid hi
          clear H F hi hL
          go_wp2_with fail
          exact hK _ _ (Below.refl _ _) HI.out rfl
        · intro L a wx Q' hL hi H F hK
          try dsimp only at hi
          obtain ⟨_, h24, rfl⟩ := H 9 ⟨.data, by simp, rfl⟩ _ rfl
          replace h24 := h24 _ rfl
          obtain ⟨_, h25, rfl⟩ := H 10 ⟨.data, by simp, rfl⟩ _ rfl
          replace h25 := h25 _ rfl
          have HI := Lib.hid hi
          clear H F hi hL
          go_wp2_with fail
          exact hK _ _ (Below.refl _ _) HI.out rfl
        · intro L a wx Q' hL hi H F hK
          try dsimp only at hi
          obtain ⟨_, h26, rfl⟩ := H 11 ⟨.data, by simp, rfl⟩ _ rfl
          replace h26 := h26 _ rfl
          have HI := Lib.hid hi
          clear H F hi hL
          go_wp2_with fail
          exact hK _ _ (Below.refl _ _) HI.out rfl
        · intro L a wx Q' hL hi H F hK
          try dsimp only at hi
          obtain ⟨_, h27, rfl⟩ := H 12 ⟨.data, by simp, rfl⟩ _ rfl
          replace h27 := h27 _ rfl
          have HI := Lib.hid hi
          clear H F hi hL
          have kq0 : wx.cell? ⟨b, off + i * 13 + 5, none⟩ = some (.int .u64 r.tgt.a) := cell_later (HBR.out.trans (HI.out.mono HBR.out.size)) (HCL.out 5 _ (by rw [flat_at rule_len HRI.out 5 (by decide)]; rfl))
          have kq1 : wx.cell? ⟨b, off + i * 13 + 6, none⟩ = some (.int .u64 r.tgt.b) := cell_later (HBR.out.trans (HI.out.mono HBR.out.size)) (HCL.out 6 _ (by rw [flat_at rule_len HRI.out 6 (by decide)]; rfl))
          have kq2 : wx.cell? ⟨b, off + i * 13 + 7, none⟩ = some (.int .u64 r.tgt.c) := cell_later (HBR.out.trans (HI.out.mono HBR.out.size)) (HCL.out 7 _ (by rw [flat_at rule_len HRI.out 7 (by decide)]; rfl))
          have kq3 : wx.cell? ⟨b, off + i * 13 + 8, none⟩ = some (.int .u64 r.tgt.d) := cell_later (HBR.out.trans (HI.out.mono HBR.out.size)) (HCL.out 8 _ (by rw [flat_at rule_len HRI.out 8 (by decide)]; rfl))
          go_wp2_with fail
          exact hK _ _ (Below.refl _ _) HI.out rfl
        · intro L a wx Q' hL hi H F hK
          try dsimp only at hi
          obtain ⟨_, h28, rfl⟩ := H 13 ⟨.data, by simp, rfl⟩ _ rfl
          replace h28 := h28 _ rfl
          have HI := Lib.hid hi
          clear H F hi hL
          go_wp2_with (go_at_call 30; go_must (refine ((show Calls Tryd.prog 30 _ _ (fun e w' => e = .returned (.int .i64 (c2 : Nat)) ∧ RowKit.Below wx.heap.size wx w') from by rw [HC2.out]; exact rcount_any wx r.tgt HRK.out.tgt)).mono ?_; rintro e w1 ⟨rfl, hb1⟩))
          exact hK _ _ hb1 (HI.out.trans (hb1.mono HI.out.size)) rfl
        · intro L a wx Q' hL hi H F hK
          try dsimp only at hi
          obtain ⟨_, h29, rfl⟩ := H 14 ⟨.data, by simp, rfl⟩ _ rfl
          replace h29 := h29 _ rfl
          have HI := Lib.hid hi
          clear H F hi hL
          go_wp2_with fail
          exact hK _ _ (Below.refl _ _) HI.out rfl
        · intro L a wx Q' hL hi H F hK
          try dsimp only at hi
          obtain ⟨_, h22, rfl⟩ := H 7 ⟨.data, by simp, rfl⟩ _ rfl
          replace h22 := h22 _ rfl
          obtain ⟨_, h30, rfl⟩ := H 15 ⟨.data, by simp, rfl⟩ _ rfl
          replace h30 := h30 _ rfl
          have HI := Lib.hid hi
          clear H F hi hL
          go_wp2_with fail
          exact hK _ _ (Below.refl _ _) HI.out rfl
        · intro L a wx Q' hL hi H F hK
          try dsimp only at hi
          obtain ⟨_, h15, rfl⟩ := H 0 ⟨.data, by simp, rfl⟩ _ rfl
          replace h15 := h15 _ rfl
          obtain ⟨_, h31, rfl⟩ := H 16 ⟨.data, by simp, rfl⟩ _ rfl
          replace h31 := h31 _ rfl
          have HI := Lib.hid hi
          clear H F hi hL
          go_wp2_with fail
          exact hK _ _ (Below.refl _ _) HI.out rfl
        · intro a wx hl L hi hL Q' hK
          try dsimp only at hi
          have HB := Lib.hid hi
          clear hi hL
          obtain ⟨_, rfl, _, rfl, _, rfl, _, rfl, _, rfl, _, rfl, _, rfl, _, rfl, _, rfl, _, rfl, _, rfl, _, rfl, _, rfl, _, rfl, _, rfl, _, rfl, _, rfl, _, rfl, rfl⟩ := hl
          simp only [List.setIfInBounds_toArray, List.set_cons_zero, List.set_cons_succ]
          go_wp2_with fail
          go_roundw
          case rel => exact ⟨i + 1, by omega, by go_num, by rw [fewN_next HRI.out]; unfold fewStep; rw [← HXX.out, ← HC1.out, ← HC2.out], HBR.out.trans (HB.out.mono HBR.out.size), Whole.under HB.out HWr.out HWr.out.lt⟩
          case measure => simp [intOf]; omega
      · obtain rfl : i = n := by omega
        go_wp2_with fail
        go_ret
        exact ⟨by rw [HL.out, List.take_length]; simp, HBR.out⟩
end Go.Proofs.YtmkfabdkadocdaaDoor
