import Derived.Test.YtmkfabdkadocdaaDoorT11
import Derived.Test.YtmkfabdkadocdaaDoorP7
import Derived.Test.YtmkfabdkadocdaaDoorV2
/-
  ExpandExact.
-/
namespace Go.Proofs.YtmkfabdkadocdaaDoor
open Go Go.WideMaps Go.RowKit Go.Sort

set_option maxRecDepth 100000 in
set_option maxHeartbeats 4000000 in
theorem expandExact_any (w : World) (a0 a1 a2 a3 a4 a5 a6 a7 a8 v a10 a11 a12 a13 a14 a15 a16 : Value) (rs : List ARule) (h : SliceAt w v 13 rs.length (rs.flatMap ARule.cells)) (hok : ∀ r ∈ rs, r.Wf) (hT : Tab w) :
    Calls Tryd.prog 4 #[.agg #[a0, a1, a2, a3, a4, a5, a6, a7, a8, v, a10, a11, a12, a13, a14, a15, a16]] w fun e w' => e = .returned (.bool true) ∧ RowKit.Below w.heap.size w w' := by
  obtain ⟨n, hn⟩ : ∃ n, n = rs.length := ⟨_, rfl⟩
  obtain ⟨ra, c, rfl, hc, hmx, -⟩ := h.form (by decide)
  have HT := Lib.hid hT
  have HL := Lib.hid hn
  have HOK := Lib.hid hok
  have HS := Lib.hid h
  rw [← hn] at hmx hc
  simp only [← hn]
  obtain ⟨wo, hwo⟩ : ∃ wo, wo = w.alloc (.cells #[a0, a1, a2, a3, a4, a5, a6, a7, a8, .slice ra n c, a10, a11, a12, a13, a14, a15, a16] 50) := ⟨_, rfl⟩
  have HBO := Lib.hid (show RowKit.Below w.heap.size w wo by rw [hwo]; exact (Below.refl _ w).alloc (Nat.le_refl _) _)
  have HWH := Lib.hid (show Whole wo w.heap.size 50 #[a0, a1, a2, a3, a4, a5, a6, a7, a8, .slice ra n c, a10, a11, a12, a13, a14, a15, a16] by rw [hwo]; exact Whole.new w 50 _)
  have hfew := few_any wo (a0) (a1) (a2) (a3) (a4) (a5) (a6) (a7) (a8) (.slice ra n c) (a10) (a11) (a12) (a13) (a14) (a15) (a16) rs (by rw [hn]; exact HS.out.keep HBO.out) (fun r hr => (HOK.out r hr).ok)
  have HSS := Lib.hid (show ∀ W, RowKit.Below w.heap.size w W → SliceAt W (.slice ra n c) 13 rs.length (rs.flatMap ARule.cells) from fun W hb => by rw [hn]; exact HS.out.keep hb)
  clear h hok hT HS
  cases hf : fewB rs with
  | false =>
    have HFW := Lib.hid (show Calls Tryd.prog 14 #[.agg #[a0, a1, a2, a3, a4, a5, a6, a7, a8, .slice ra n c, a10, a11, a12, a13, a14, a15, a16]] wo (fun e w' => e = .returned (.bool false) ∧ RowKit.Below wo.heap.size wo w') from by rw [hf] at hfew; exact hfew)
    clear hfew hf hn
    go_enter Tryd.func4, Tryd.ntmps4
    go_upto_region 1 with fail
    rw [← hwo]
    clear hwo
    go_wp2_with (first | (have hZ := HWH; clear hZ; refine wpList_load_row_g rfl 50 _ rfl w.heap.size rfl 50 _ (0, 0) _ HWH.out Tryd.underlying50 rfl size50 ?_) | (have hZ := HFW; clear hZ; go_at_call 14; go_must (refine HFW.out.mono ?_; rintro e w1 ⟨rfl, hb1⟩; have HB1 := Lib.hid (HBO.out.trans (hb1.mono HBO.out.size)); have HP1 := Lib.hid (Whole.under hb1 HWH.out HWH.out.lt); clear hb1 HFW HWH)) | (have hZ := HB1; clear hZ; go_at_call 13; go_must (refine (awake_any w1 (HT.out.later HB1.out)).mono ?_; rintro e w9 ⟨rfl, hb9⟩; have HB9 := Lib.hid (HB1.out.trans (hb9.mono HB1.out.size)); clear hb9 HB1)))
    go_ret
    exact ⟨rfl, HB9.out⟩
  | true =>
    have HFW := Lib.hid (show Calls Tryd.prog 14 #[.agg #[a0, a1, a2, a3, a4, a5, a6, a7, a8, .slice ra n c, a10, a11, a12, a13, a14, a15, a16]] wo (fun e w' => e = .returned (.bool true) ∧ RowKit.Below wo.heap.size wo w') from by rw [hf] at hfew; exact hfew)
    have hn40 : rs.length ≤ 40 := by unfold fewB at hf; simp at hf; exact hf.1
    have HN40 := Lib.hid hn40
    clear hfew hf hn hn40
    go_enter Tryd.func4, Tryd.ntmps4
    go_upto_region 1 with fail
    rw [← hwo]
    clear hwo
    go_wp2_with (first | (have hZ := HWH; clear hZ; refine wpList_load_row_g rfl 50 _ rfl w.heap.size rfl 50 _ (0, 0) _ HWH.out Tryd.underlying50 rfl size50 ?_) | (have hZ := HFW; clear hZ; go_at_call 14; go_must (refine HFW.out.mono ?_; rintro e w1 ⟨rfl, hb1⟩; have HB1 := Lib.hid (HBO.out.trans (hb1.mono HBO.out.size)); have HP1 := Lib.hid (Whole.under hb1 HWH.out HWH.out.lt); clear hb1 HFW HWH)) | (have hZ := HP1; clear hZ; refine wpList_load_row_g rfl 50 _ rfl w.heap.size rfl 50 _ (0, 0) _ HP1.out Tryd.underlying50 rfl size50 ?_) | (have hZ := HP2; clear hZ; refine wpList_load_row_g rfl 50 _ rfl w.heap.size rfl 50 _ (0, 0) _ HP2.out Tryd.underlying50 rfl size50 ?_) | (have hZ := HP4; clear hZ; refine wpList_load_row_g rfl 50 _ rfl w.heap.size rfl 50 _ (0, 0) _ HP4.out Tryd.underlying50 rfl size50 ?_) | (have hZ := HP1; clear hZ; go_at_call 15; go_must (refine (refEntries_any w1 (a0) (a1) (a2) (a3) (a4) (a5) (a6) (a7) (a8) (.slice ra n c) (a10) (a11) (a12) (a13) (a14) (a15) (a16) rs (HSS.out w1 HB1.out) HOK.out (by have := HN40.out; omega)).mono ?_; rintro e w2 ⟨v2, E, rfl, hc2, hl2, hs2, hb2⟩; obtain ⟨ea, ec, rfl, hec, hem, -⟩ := hs2.form (by decide); have HE := Lib.hid hc2; have HS2 := Lib.hid hs2; clear hc2 hs2; have HB2 := Lib.hid (HB1.out.trans (hb2.mono HB1.out.size)); have HP2 := Lib.hid (Whole.under hb2 HP1.out HP1.out.lt); clear hb2 HB1 HP1 )) | (have hZ := HP2; clear hZ; go_at_call 17; go_must (refine (expEntries_any w2 (a0) (a1) (a2) (a3) (a4) (a5) (a6) (a7) (a8) (.slice ra n c) (a10) (a11) (a12) (a13) (a14) (a15) (a16) rs (HSS.out w2 HB2.out) HOK.out (by have := HN40.out; omega)).mono ?_; rintro e w3 ⟨v3, E3, rfl, hc3, -, -, hs3, hb3⟩; have HS3 := Lib.hid (show SliceAt w3 v3 7 E.length (E.flatMap AEntry.cells) by rw [← hc3.uniq HE.out]; exact hs3); have HS2k := Lib.hid (HS2.out.keep hb3); clear hc3 hs3; have HB3 := Lib.hid (HB2.out.trans (hb3.mono HB2.out.size)); have HP3 := Lib.hid (Whole.under hb3 HP2.out HP2.out.lt); clear hb3 HB2 HP2 HS2)) | (have hZ := HP3; clear hZ; go_at_call 16; go_must (refine (same_any w3 _ _ E HS3.out HS2k.out).mono ?_; rintro e w4 ⟨rfl, hb4⟩; skip; have HB4 := Lib.hid (HB3.out.trans (hb4.mono HB3.out.size)); have HP4 := Lib.hid (Whole.under hb4 HP3.out HP3.out.lt); clear hb4 HB3 HP3 HS3 HS2k)) | (have hZ := HP4; clear hZ; go_at_call 18; go_must (refine (count_any w4 (a0) (a1) (a2) (a3) (a4) (a5) (a6) (a7) (a8) (.slice ra n c) (a10) (a11) (a12) (a13) (a14) (a15) (a16) rs (HSS.out w4 HB4.out) HOK.out (by have := HN40.out; omega)).mono ?_; rintro e w5 ⟨E5, rfl, hc5, hb5⟩; have e5 : E5 = E := hc5.uniq HE.out; subst e5; clear hc5; have HB5 := Lib.hid (HB4.out.trans (hb5.mono HB4.out.size)); have HP5 := Lib.hid (Whole.under hb5 HP4.out HP4.out.lt); clear hb5 HB4 HP4 )) | (have hZ := HB5; clear hZ; go_at_call 13; go_must (refine (awake_any w5 (HT.out.later HB5.out)).mono ?_; rintro e w9 ⟨rfl, hb9⟩; have HB9 := Lib.hid (HB5.out.trans (hb9.mono HB5.out.size)); clear hb9 HB5)))
    go_ret
    exact ⟨rfl, HB9.out⟩
end Go.Proofs.YtmkfabdkadocdaaDoor
