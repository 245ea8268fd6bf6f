import Derived.Test.YtmkfabdkadocdaaDoorT11
import Derived.Test.YtmkfabdkadocdaaDoorPY
import Derived.Test.YtmkfabdkadocdaaDoorV2
/-
  ExpandNever.
-/
namespace Go.Proofs.YtmkfabdkadocdaaDoor
open Go Go.WideMaps Go.RowKit Go.Sort

set_option maxRecDepth 100000 in
set_option maxHeartbeats 4000000 in
theorem expandNever_any (w : World) (a0 a1 a2 a3 a4 a5 a6 a7 a8 v a10 a11 a12 a13 a14 a15 a16 : Value) (rs : List ARule) (h : SliceAt w v 13 rs.length (rs.flatMap ARule.cells)) (hok : ∀ r ∈ rs, r.Wf) (hT : Tab w) :
    Calls Tryd.prog 6 #[.agg #[a0, a1, a2, a3, a4, a5, a6, a7, a8, v, a10, a11, a12, a13, a14, a15, a16]] w fun e w' => e = .returned (.bool true) ∧ RowKit.Below w.heap.size w w' := by
  obtain ⟨n, hn⟩ : ∃ n, n = rs.length := ⟨_, rfl⟩
  obtain ⟨ra, c, rfl, hc, hmx, -⟩ := h.form (by decide)
  have HT := Lib.hid hT
  have HL := Lib.hid hn
  have HOK := Lib.hid hok
  have HS := Lib.hid h
  rw [← hn] at hmx hc
  simp only [← hn]
  obtain ⟨wo, hwo⟩ : ∃ wo, wo = w.alloc (.cells #[a0, a1, a2, a3, a4, a5, a6, a7, a8, .slice ra n c, a10, a11, a12, a13, a14, a15, a16] 50) := ⟨_, rfl⟩
  have HBO := Lib.hid (show RowKit.Below w.heap.size w wo by rw [hwo]; exact (Below.refl _ w).alloc (Nat.le_refl _) _)
  have HWH := Lib.hid (show Whole wo w.heap.size 50 #[a0, a1, a2, a3, a4, a5, a6, a7, a8, .slice ra n c, a10, a11, a12, a13, a14, a15, a16] by rw [hwo]; exact Whole.new w 50 _)
  have hfew := few_any wo (a0) (a1) (a2) (a3) (a4) (a5) (a6) (a7) (a8) (.slice ra n c) (a10) (a11) (a12) (a13) (a14) (a15) (a16) rs (by rw [hn]; exact HS.out.keep HBO.out) (fun r hr => (HOK.out r hr).ok)
  have HSS := Lib.hid (show ∀ W, RowKit.Below w.heap.size w W → SliceAt W (.slice ra n c) 13 rs.length (rs.flatMap ARule.cells) from fun W hb => by rw [hn]; exact HS.out.keep hb)
  clear h hok hT HS
  cases hf : fewB rs with
  | false =>
    have HFW := Lib.hid (show Calls Tryd.prog 14 #[.agg #[a0, a1, a2, a3, a4, a5, a6, a7, a8, .slice ra n c, a10, a11, a12, a13, a14, a15, a16]] wo (fun e w' => e = .returned (.bool false) ∧ RowKit.Below wo.heap.size wo w') from by rw [hf] at hfew; exact hfew)
    clear hfew hf hn
    go_enter Tryd.func6, Tryd.ntmps6
    go_upto_region 1 with fail
    rw [← hwo]
    clear hwo
    go_wp2_with (first | (have hZ := HWH; clear hZ; refine wpList_load_row_g rfl 50 _ rfl w.heap.size rfl 50 _ (0, 0) _ HWH.out Tryd.underlying50 rfl size50 ?_) | (have hZ := HFW; clear hZ; go_at_call 14; go_must (refine HFW.out.mono ?_; rintro e w1 ⟨rfl, hb1⟩; have HB1 := Lib.hid (HBO.out.trans (hb1.mono HBO.out.size)); have HP1 := Lib.hid (Whole.under hb1 HWH.out HWH.out.lt); clear hb1 HFW HWH)) | (have hZ := HB1; clear hZ; go_at_call 13; go_must (refine (awake_any w1 (HT.out.later HB1.out)).mono ?_; rintro e w9 ⟨rfl, hb9⟩; have HB9 := Lib.hid (HB1.out.trans (hb9.mono HB1.out.size)); clear hb9 HB1)))
    go_ret
    exact ⟨rfl, HB9.out⟩
  | true =>
    have HFW := Lib.hid (show Calls Tryd.prog 14 #[.agg #[a0, a1, a2, a3, a4, a5, a6, a7, a8, .slice ra n c, a10, a11, a12, a13, a14, a15, a16]] wo (fun e w' => e = .returned (.bool true) ∧ RowKit.Below wo.heap.size wo w') from by rw [hf] at hfew; exact hfew)
    have hn40 : rs.length ≤ 40 := by unfold fewB at hf; simp at hf; exact hf.1
    have HN40 := Lib.hid hn40
    clear hfew hf hn hn40
    go_enter Tryd.func6, Tryd.ntmps6
    go_upto_region 1 with fail
    rw [← hwo]
    clear hwo
    go_upto_region 3 with (first | (have hZ := HWH; clear hZ; refine wpList_load_row_g rfl 50 _ rfl w.heap.size rfl 50 _ (0, 0) _ HWH.out Tryd.underlying50 rfl size50 ?_) | (have hZ := HFW; clear hZ; go_at_call 14; go_must (refine HFW.out.mono ?_; rintro e w1 ⟨rfl, hb1⟩; have HB1 := Lib.hid (HBO.out.trans (hb1.mono HBO.out.size)); have HP1 := Lib.hid (Whole.under hb1 HWH.out HWH.out.lt); clear hb1 HFW HWH)))
    refine wp_region_plan [7, 8, 9, 10, 11, 12, 13, 14, 2] [isV (.agg #[a0, a1, a2, a3, a4, a5, a6, a7, a8, .slice ra n c, a10, a11, a12, a13, a14, a15, a16]), (fun v w' => ∃ E, Canon (accum (kvR rs)) E ∧ SliceAt w' v 7 (neverL rs E).length ((neverL rs E).flatMap AEntry.cells)), isV (.agg #[a0, a1, a2, a3, a4, a5, a6, a7, a8, .slice ra n c, a10, a11, a12, a13, a14, a15, a16]), (fun v w' => ∃ E, Canon (accum (kvR rs)) E ∧ SliceAt w' v 7 (neverL rs E).length ((neverL rs E).flatMap AEntry.cells)), isV (.bool true), isV (.bool true), isV (.bool true), isV (.bool true), isV (.bool true)] (RowKit.Below w1.heap.size w1) (by kernel_rfl) (by kernel_rfl) rfl (by decide) rfl ((Below.refl _ _).drew) (fun w w' h hb => h.trans (hb.mono h.size)) ⟨lasts_is _, (fun u wa wb h hb => let ⟨E, h1, h2⟩ := h; ⟨E, h1, h2.keep hb⟩), lasts_is _, (fun u wa wb h hb => let ⟨E, h1, h2⟩ := h; ⟨E, h1, h2.keep hb⟩), lasts_is _, lasts_is _, lasts_is _, lasts_is _, lasts_is _, trivial⟩ ⟨?_, ?_, ?_, ?_, ?_, ?_, ?_, ?_, ?_, trivial⟩ ?_
    · intro a wx Q' hi H F hK
      have h1 : a.tmps[1]? = some (.pointer (some ⟨w.heap.size, 0, none⟩)) := F 1 rfl
      have HI := Lib.hid hi
      clear H F hi
      have HW := Lib.hid (Whole.under HI.out HP1.out (Whole.lt HP1.out))
      go_wp2_with (refine wpList_load_row rfl 50 _ rfl w.heap.size (by simp [Act.eval, *]) 50 _ (0, 0) _ HW.out Tryd.underlying50 rfl size50 ?_)
      exact hK _ _ (Below.refl _ _) rfl
    · intro a wx Q' hi H F hK
      obtain ⟨_, h7, rfl⟩ := H 0 ⟨.data, by simp, rfl⟩ 7 _ rfl rfl
      have HI := Lib.hid hi
      clear H F hi
      go_wp2_with (go_at_call 21; go_must (refine (never_any wx (a0) (a1) (a2) (a3) (a4) (a5) (a6) (a7) (a8) (.slice ra n c) (a10) (a11) (a12) (a13) (a14) (a15) (a16) rs (HSS.out wx (HB1.out.trans (HI.out.mono HB1.out.size))) HOK.out (by have := HN40.out; omega)).mono ?_; rintro e w2 ⟨v1, E, rfl, hc1, hs1, hb1⟩))
      exact hK _ _ hb1 ⟨E, hc1, hs1⟩
    · intro a wx Q' hi H F hK
      have h1 : a.tmps[1]? = some (.pointer (some ⟨w.heap.size, 0, none⟩)) := F 1 rfl
      have HI := Lib.hid hi
      clear H F hi
      have HW := Lib.hid (Whole.under HI.out HP1.out (Whole.lt HP1.out))
      go_wp2_with (refine wpList_load_row rfl 50 _ rfl w.heap.size (by simp [Act.eval, *]) 50 _ (0, 0) _ HW.out Tryd.underlying50 rfl size50 ?_)
      exact hK _ _ (Below.refl _ _) rfl
    · intro a wx Q' hi H F hK
      obtain ⟨_, h9, rfl⟩ := H 2 ⟨.data, by simp, rfl⟩ 9 _ rfl rfl
      have HI := Lib.hid hi
      clear H F hi
      go_wp2_with (go_at_call 22; go_must (refine (refNever_any wx (a0) (a1) (a2) (a3) (a4) (a5) (a6) (a7) (a8) (.slice ra n c) (a10) (a11) (a12) (a13) (a14) (a15) (a16) rs (HSS.out wx (HB1.out.trans (HI.out.mono HB1.out.size))) HOK.out (by have := HN40.out; omega)).mono ?_; rintro e w2 ⟨v1, E, rfl, hc1, hs1, hb1⟩))
      exact hK _ _ hb1 ⟨E, hc1, hs1⟩
    · intro a wx Q' hi H F hK
      obtain ⟨v8, h8, hv8⟩ := H 1 ⟨.data, by simp, rfl⟩ 8 _ rfl rfl
      have HV8 := Lib.hid hv8
      clear hv8
      obtain ⟨v10, h10, hv10⟩ := H 3 ⟨.data, by simp, rfl⟩ 10 _ rfl rfl
      have HV10 := Lib.hid hv10
      clear hv10
      have HI := Lib.hid hi
      clear H F hi
      obtain ⟨E1, hc1, hs1⟩ := HV8.out
      obtain ⟨E2, hc2, hs2⟩ := HV10.out
      obtain rfl := hc1.uniq hc2
      have HA := Lib.hid hs1
      have HBs := Lib.hid hs2
      clear hs1 hs2 hc1 hc2 HV8 HV10
      go_wp2_with (go_at_call 16; go_must (refine (same_any wx _ _ _ HA.out HBs.out).mono ?_; rintro e w2 ⟨rfl, hb1⟩))
      exact hK _ _ hb1 rfl
    · intro a wx Q' hi H F hK
      obtain ⟨_, h11, rfl⟩ := H 4 ⟨.data, by simp, rfl⟩ 11 _ rfl rfl
      have HI := Lib.hid hi
      clear H F hi
      go_wp2_with fail
      exact hK _ _ (Below.refl _ _) rfl
    · intro a wx Q' hi H F hK
      obtain ⟨_, h12, rfl⟩ := H 5 ⟨.guard, by simp, rfl⟩ 12 _ rfl rfl
      have HI := Lib.hid hi
      clear H F hi
      go_wp2_with (go_at_call 13; go_must (refine (awake_any wx (HT.out.later (HB1.out.trans (HI.out.mono HB1.out.size)))).mono ?_; rintro e w2 ⟨rfl, hb1⟩))
      exact hK _ _ hb1 rfl
    · intro a wx Q' hi H F hK
      obtain ⟨_, h12, rfl⟩ := H 5 ⟨.data, by simp, rfl⟩ 12 _ rfl rfl
      obtain ⟨_, h13, rfl⟩ := H 6 ⟨.data, by simp, rfl⟩ 13 _ rfl rfl
      have HI := Lib.hid hi
      clear H F hi
      go_wp2_with fail
      exact hK _ _ (Below.refl _ _) rfl
    · intro a wx Q' hi H F hK
      obtain ⟨_, h14, rfl⟩ := H 7 ⟨.data, by simp, rfl⟩ 14 _ rfl rfl
      have HI := Lib.hid hi
      clear H F hi
      go_wp2_with fail
      exact hK _ _ (Below.refl _ _) rfl
    · rintro ⟨tmps, defers⟩ wx hR
      obtain ⟨_, h0, rfl⟩ := hR.done 8 rfl 2 _ rfl rfl
      obtain rfl := hR.defers
      have HV0 := Lib.hid hR.inv
      clear hR
      go_wp2_with fail
      refine bodyPost_ret (v := .bool true) ?_ rfl ⟨rfl, HB1.out.trans (HV0.out.mono HB1.out.size)⟩
      simp [results, Tryd.results6, h0]
end Go.Proofs.YtmkfabdkadocdaaDoor
