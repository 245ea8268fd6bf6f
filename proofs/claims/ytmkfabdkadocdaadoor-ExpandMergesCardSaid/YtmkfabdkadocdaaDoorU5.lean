import Derived.Test.YtmkfabdkadocdaaDoorT11
import Derived.Test.YtmkfabdkadocdaaDoorPX
import Derived.Test.YtmkfabdkadocdaaDoorV1
/-
  ExpandMerges.
-/
namespace Go.Proofs.YtmkfabdkadocdaaDoor
open Go Go.WideMaps Go.RowKit Go.Sort

set_option maxHeartbeats 2000000 in
theorem rmerge_any (w : World) (v : Value) (l : List AEntry) (h : SliceAt w v 7 l.length (l.flatMap AEntry.cells)) (hok : ∀ x ∈ l, x.Ok) (hlen : l.length ≤ 100000000) :
    Calls Tryd.prog 20 #[v] w fun e w' => ∃ v' l', e = .returned v' ∧ Canon (accE l) l' ∧ l'.length ≤ l.length ∧ SliceAt w' v' 7 l'.length (l'.flatMap AEntry.cells) ∧ RowKit.Below w.heap.size w w' := by
  have HC := Lib.hid (union_any w v l h hok hlen)
  clear h hok hlen
  go_enter Tryd.func20, Tryd.ntmps20
  go_wp2_with (go_at_call 32; go_must (refine HC.out.mono ?_; rintro e w1 ⟨v1, l1, rfl, hq⟩; have HQ := Lib.hid hq; clear hq))
  go_ret
  exact ⟨_, l1, rfl, HQ.out⟩
/-- A canonical list says of each key what made it. -/
theorem canon_same {l E : List AEntry} (h : Canon (accE l) E) : accE E = accE l := by
  funext k
  refine vle_antisymm (accum_le (accum_ok _ _) fun p hp e => ?_) ?_
  · obtain ⟨x, hx, rfl⟩ := List.mem_map.1 hp
    have h1 := ((h.mem x).1 hx).1
    subst e
    show x.vecs.or (accE l x.key) = accE l x.key
    rw [h1, AVec.or_self (accE_val _ _)]
  · by_cases hz : accE l k = AVec.zero
    · rw [hz, AVec.zero_or (accE_val _ _)]
    · have hx := (h.mem (mkE k (accE l k))).2 ⟨rfl, hz⟩
      have hm : (k, accE l k) ∈ kvs E := List.mem_map.2 ⟨_, hx, rfl⟩
      exact le_accum (p := (k, accE l k)) (accum_ok _ _) hm
set_option maxRecDepth 100000 in
set_option maxHeartbeats 4000000 in
theorem expandMerges_any (w : World) (v : Value) (l : List AEntry) (h : SliceAt w v 7 l.length (l.flatMap AEntry.cells)) (hok : ∀ x ∈ l, x.Ok) (hT : Tab w) : Calls Tryd.prog 5 #[v] w fun e w' => e = .returned (.bool true) ∧ RowKit.Below w.heap.size w w' := by
  obtain ⟨n, hn⟩ : ∃ n, n = l.length := ⟨_, rfl⟩
  obtain ⟨a, c, rfl, hc, hmx, -⟩ := h.form (by decide)
  have HT := Lib.hid hT
  have HL := Lib.hid hn
  have HOK := Lib.hid hok
  have HS := Lib.hid h
  rw [← hn] at hmx hc HS ⊢
  have HS0 := Lib.hid (show SliceAt w (.slice a n c) 7 l.length (l.flatMap AEntry.cells) by rw [← HL.out]; exact HS.out)
  clear hn h hok hT HS
  by_cases hbig : 300 < n
  · have hd : decide ((300 : Int) < (n : Int)) = true := by simp; omega
    clear hbig
    go_enter Tryd.func5, Tryd.ntmps5
    go_wp2_with (go_at_call 13; go_must (refine (awake_any _ HT.out).mono ?_; rintro e w9 ⟨rfl, hb9⟩; have HB9 := Lib.hid hb9; clear hb9))
    go_ret
    exact ⟨rfl, HB9.out⟩
  · have hd : decide ((300 : Int) < (n : Int)) = false := by simp; omega
    have HLS := Lib.hid (show l.length ≤ 300 by rw [← HL.out]; omega)
    clear hbig
    go_enter Tryd.func5, Tryd.ntmps5
    go_wp2_with (first
      | (have hZ := HS0; clear hZ; go_at_call 19; go_must (refine (merge_any w _ l HS0.out HOK.out (by have := HLS.out; omega)).mono ?_; rintro e w1 ⟨v1, E, rfl, hc1, ho1, hl1, hs1, hb1⟩; have HE := Lib.hid (And.intro hc1 (And.intro ho1 hl1)); have HS1 := Lib.hid hs1; have HB1 := Lib.hid hb1; have HL1 := Lib.hid (HS0.out.keep hb1); have HT1 := Lib.hid (HT.out.later hb1); clear hc1 ho1 hl1 hs1 hb1 HS0 HT))
      | (have hZ := HL1; clear hZ; go_at_call 20; go_must (refine (rmerge_any w1 _ l HL1.out HOK.out (by have := HLS.out; omega)).mono ?_; rintro e w2 ⟨v2, R, rfl, hc2, -, hs2, hb2⟩; have HS2 := Lib.hid (show SliceAt w2 v2 7 E.length (E.flatMap AEntry.cells) by rw [← hc2.uniq HE.out.1]; exact hs2); have HS3 := Lib.hid (HS1.out.keep hb2); have HB2 := Lib.hid (HB1.out.trans (hb2.mono HB1.out.size)); have HT2 := Lib.hid (HT1.out.later hb2); clear hc2 hs2 hb2 HL1 HS1 HB1 HT1))
      | (have hZ := HS2; clear hZ; go_at_call 16; go_must (refine (same_any w2 _ _ E HS3.out HS2.out).mono ?_; rintro e w3 ⟨rfl, hb3⟩; have HS4 := Lib.hid (HS3.out.keep hb3); have HB3 := Lib.hid (HB2.out.trans (hb3.mono HB2.out.size)); have HT3 := Lib.hid (HT2.out.later hb3); clear hb3 HS2 HS3 HB2 HT2))
      | (have hZ := HT3; clear hZ; go_at_call 19; go_must (refine (merge_any w3 _ E HS4.out HE.out.2.1 (by have := HE.out.2.2; have := HLS.out; omega)).mono ?_; rintro e w4 ⟨v4, E4, rfl, hc4, -, -, hs4, hb4⟩; have HS5 := Lib.hid (show SliceAt w4 v4 7 E.length (E.flatMap AEntry.cells) by rw [canon_same HE.out.1] at hc4; rw [← hc4.uniq HE.out.1]; exact hs4); have HS6 := Lib.hid (HS4.out.keep hb4); have HB4 := Lib.hid (HB3.out.trans (hb4.mono HB3.out.size)); have HT4 := Lib.hid (HT3.out.later hb4); clear hc4 hs4 hb4 HS4 HB3 HT3))
      | (have hZ := HS5; clear hZ; go_at_call 16; go_must (refine (same_any w4 _ _ E HS5.out HS6.out).mono ?_; rintro e w5 ⟨rfl, hb5⟩; have HB5 := Lib.hid (HB4.out.trans (hb5.mono HB4.out.size)); have HT5 := Lib.hid (HT4.out.later hb5); clear hb5 HS5 HS6 HB4 HT4))
      | (have hZ := HT5; clear hZ; go_at_call 13; go_must (refine (awake_any w5 HT5.out).mono ?_; rintro e w6 ⟨rfl, hb6⟩; have HB6 := Lib.hid (HB5.out.trans (hb6.mono HB5.out.size)); clear hb6 HB5 HT5)))
    go_ret
    exact ⟨rfl, HB6.out⟩
end Go.Proofs.YtmkfabdkadocdaaDoor
