import Derived.Test.YtmkfabdkadocdaaDoorT11
import Derived.Test.YtmkfabdkadocdaaDoorRX
/-
  ExpandRules.
-/
namespace Go.Proofs.YtmkfabdkadocdaaDoor
open Go Go.WideMaps Go.RowKit Go.Sort

set_option maxRecDepth 100000 in
set_option maxHeartbeats 4000000 in
theorem expandRules_any (w : World) (v : Value) (l : List AEntry) (h : SliceAt w v 7 l.length (l.flatMap AEntry.cells)) (hok : ∀ x ∈ l, x.Ok) (hT : Tab w) : Calls Tryd.prog 7 #[v] w fun e w' => e = .returned (.bool true) ∧ RowKit.Below w.heap.size w w' := by
  obtain ⟨n, hn⟩ : ∃ n, n = l.length := ⟨_, rfl⟩
  obtain ⟨a, c, rfl, hc, hmx, -⟩ := h.form (by decide)
  have HT := Lib.hid hT
  have HL := Lib.hid hn
  have HOK := Lib.hid hok
  have HS := Lib.hid h
  rw [← hn] at hmx hc HS ⊢
  have HS0 := Lib.hid (show SliceAt w (.slice a n c) 7 l.length (l.flatMap AEntry.cells) by rw [← HL.out]; exact HS.out)
  clear hn h hok hT HS
  by_cases hbig : 120 < n
  · have hd : decide ((120 : Int) < (n : Int)) = true := by simp; omega
    clear hbig
    go_enter Tryd.func7, Tryd.ntmps7
    go_wp2_with (go_at_call 13; go_must (refine (awake_any _ HT.out).mono ?_; rintro e w9 ⟨rfl, hb9⟩; have HB9 := Lib.hid hb9; clear hb9))
    go_ret
    exact ⟨rfl, HB9.out⟩
  · have hd : decide ((120 : Int) < (n : Int)) = false := by simp; omega
    have HLS := Lib.hid (show l.length ≤ 120 by rw [← HL.out]; omega)
    clear hbig
    go_enter Tryd.func7, Tryd.ntmps7
    go_wp2_with (first
      | (have hZ := HS0; clear hZ; go_at_call 24; go_must (refine (compress_any w _ l HS0.out HOK.out (by have := HLS.out; omega) HT.out).mono ?_; rintro e w1 ⟨v1, E, R, rfl, hc1, ho1, hl1, hr1, hs1, hb1⟩; have HE := Lib.hid (And.intro hc1 hr1); have HS1 := Lib.hid hs1; have HB1 := Lib.hid hb1; have HL1 := Lib.hid (HS0.out.keep hb1); have HT1 := Lib.hid (HT.out.later hb1); clear hc1 ho1 hl1 hr1 hs1 hb1 HS0 HT))
      | (have hZ := HL1; clear hZ; go_at_call 25; go_must (refine (refCompress_any w1 _ l HL1.out HOK.out HLS.out).mono ?_; rintro e w2 ⟨v2, rfl, hs2, hb2⟩; have HS2 := Lib.hid (show SliceAt w2 v2 13 R.length (R.flatMap ARule.cells) by rw [← (refCompress_canon HOK.out HE.out.1).uniq HE.out.2]; exact hs2); have HS3 := Lib.hid (HS1.out.keep hb2); have HB2 := Lib.hid (HB1.out.trans (hb2.mono HB1.out.size)); have HT2 := Lib.hid (HT1.out.later hb2); clear hs2 hb2 HL1 HS1 HB1 HT1))
      | (have hZ := HS2; clear hZ; go_at_call 23; go_must (refine (rules_any w2 _ _ R HS3.out HS2.out).mono ?_; rintro e w3 ⟨rfl, hb3⟩; have HB3 := Lib.hid (HB2.out.trans (hb3.mono HB2.out.size)); have HT3 := Lib.hid (HT2.out.later hb3); clear hb3 HS2 HS3 HB2 HT2))
      | (have hZ := HT3; clear hZ; go_at_call 13; go_must (refine (awake_any w3 HT3.out).mono ?_; rintro e w6 ⟨rfl, hb6⟩; have HB6 := Lib.hid (HB3.out.trans (hb6.mono HB3.out.size)); clear hb6 HB3 HT3)))
    go_ret
    exact ⟨rfl, HB6.out⟩
end Go.Proofs.YtmkfabdkadocdaaDoor
