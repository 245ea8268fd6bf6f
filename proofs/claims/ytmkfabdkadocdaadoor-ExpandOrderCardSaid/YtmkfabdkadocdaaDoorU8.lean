import Derived.Test.YtmkfabdkadocdaaDoorT11
import Derived.Test.YtmkfabdkadocdaaDoorV1
/-
  ExpandCompresses.
-/
namespace Go.Proofs.YtmkfabdkadocdaaDoor
open Go Go.WideMaps Go.RowKit Go.Sort

theorem ruleOf_wf {E : List AEntry} {r : ARule} (hok : ∀ x ∈ E, x.Ok) (h : RuleOf (pairsOf E) r) : r.Wf := by
  have ho := h.ok
  obtain ⟨p, hp, hg, rfl⟩ := ruleOf_iff.1 h
  obtain ⟨x, hx, hk⟩ := List.mem_flatMap.1 hp
  have hpx : p.1 = x ∧ (p.2 = 1 ∨ p.2 = 2 ∨ p.2 = 3) := by
    unfold kinds at hk
    split at hk
    · simp at hk
      rcases hk with rfl | rfl | rfl <;> simp
    · cases hk
  obtain ⟨rfl, hk3⟩ := hpx
  have hx' := hok _ hx
  refine ⟨ho, ?_, hx'.1.cls, hx'.1.cond, hx'.vec _⟩
  show I64 p.2
  rcases hk3 with h | h | h <;> (rw [h]; exact ⟨by decide, by decide⟩)
set_option maxRecDepth 100000 in
set_option maxHeartbeats 4000000 in
theorem expandCompresses_any (w : World) (v : Value) (l : List AEntry) (h : SliceAt w v 7 l.length (l.flatMap AEntry.cells)) (hok : ∀ x ∈ l, x.Ok) (hT : Tab w) : Calls Tryd.prog 8 #[v] w fun e w' => e = .returned (.bool true) ∧ RowKit.Below w.heap.size w w' := by
  obtain ⟨n, hn⟩ : ∃ n, n = l.length := ⟨_, rfl⟩
  obtain ⟨a, c, rfl, hc, hmx, hcell⟩ := h.form (by decide)
  have HT := Lib.hid hT
  have HL := Lib.hid hn
  have HC := Lib.hid (And.intro hcell hc)
  have HOK := Lib.hid hok
  have HS := Lib.hid h
  rw [← hn] at hmx hc HS ⊢
  clear hn hcell h hok hT
  by_cases hbig : 120 < n
  · have hd : decide ((120 : Int) < (n : Int)) = true := by simp; omega
    clear hbig
    go_enter Tryd.func8, Tryd.ntmps8
    go_wp2_with (have hZ := HT; clear hZ; go_at_call 13; go_must (refine (awake_any _ HT.out).mono ?_; rintro e w9 ⟨rfl, hb9⟩; have HB9 := Lib.hid hb9; clear hb9))
    go_ret
    exact ⟨rfl, HB9.out⟩
  · have hd : decide ((120 : Int) < (n : Int)) = false := by simp; omega
    go_enter Tryd.func8, Tryd.ntmps8
    go_wp2_with fail
    go_loopw [11] (fun i wr => ∃ k : Nat, k ≤ n ∧ i = .int .i64 k ∧ Hid (∀ x ∈ l.take k, x.inR = true) ∧ wr = w) (fun i _ => n - (intOf i).toNat)
    case atStart => exact ⟨0, Nat.zero_le _, rfl, (fun x hx => by simp at hx), rfl⟩
    case round =>
      obtain ⟨i, hi, rfl, hin, rfl⟩ := hrel
      by_cases hlt : i < n
      · have hln : i < l.length := by rw [← HL.out]; exact hlt
        obtain ⟨x, hx⟩ : ∃ x, l[i]? = some x := ⟨_, List.getElem?_eq_getElem hln⟩
        have HXI := Lib.hid hx
        obtain ⟨b, off, rfl, hcl⟩ := HC.out.1 i hln
        have e0 : wr.cell? ⟨b, off + i * 7, none⟩ = some (.int .i64 x.src) := hcl 0 _ (by rw [flat_at entry_len hx 0 (by decide)]; rfl)
        have e1 : wr.cell? ⟨b, off + i * 7 + 1, none⟩ = some (.int .i64 x.tgt) := hcl 1 _ (by rw [flat_at entry_len hx 1 (by decide)]; rfl)
        clear hx hcl hln
        by_cases h1 : x.src < 0
        · have hd1 : decide (x.src < 0) = true := by simp [h1]
          clear h1 
          go_wp2_with (have hZ := HT; clear hZ; go_at_call 13; go_must (refine (awake_any _ HT.out).mono ?_; rintro e w9 ⟨rfl, hb9⟩; have HB9 := Lib.hid hb9; clear hb9))
          go_ret
          exact ⟨rfl, HB9.out⟩
        · by_cases h2 : 255 < x.src
          · have hd1 : decide (x.src < 0) = false := by simp [h1]
            have hd2 : decide (255 < x.src) = true := by simp [h2]
            clear h1 h2
            go_wp2_with (have hZ := HT; clear hZ; go_at_call 13; go_must (refine (awake_any _ HT.out).mono ?_; rintro e w9 ⟨rfl, hb9⟩; have HB9 := Lib.hid hb9; clear hb9))
            go_ret
            exact ⟨rfl, HB9.out⟩
          · by_cases h3 : x.tgt < 0
            · have hd1 : decide (x.src < 0) = false := by simp [h1]
              have hd2 : decide (255 < x.src) = false := by simp; omega
              have hd3 : decide (x.tgt < 0) = true := by simp [h3]
              clear h1 h2 h3
              go_wp2_with (have hZ := HT; clear hZ; go_at_call 13; go_must (refine (awake_any _ HT.out).mono ?_; rintro e w9 ⟨rfl, hb9⟩; have HB9 := Lib.hid hb9; clear hb9))
              go_ret
              exact ⟨rfl, HB9.out⟩
            · by_cases h4 : 255 < x.tgt
              · have hd1 : decide (x.src < 0) = false := by simp [h1]
                have hd2 : decide (255 < x.src) = false := by simp; omega
                have hd3 : decide (x.tgt < 0) = false := by simp [h3]
                have hd4 : decide (255 < x.tgt) = true := by simp [h4]
                clear h1 h2 h3 h4
                go_wp2_with (have hZ := HT; clear hZ; go_at_call 13; go_must (refine (awake_any _ HT.out).mono ?_; rintro e w9 ⟨rfl, hb9⟩; have HB9 := Lib.hid hb9; clear hb9))
                go_ret
                exact ⟨rfl, HB9.out⟩
              · have HIN := Lib.hid (show x.inR = true by simp [AEntry.inR]; omega)
                have hd1 : decide (x.src < 0) = false := by simp [h1]
                have hd2 : decide (255 < x.src) = false := by simp; omega
                have hd3 : decide (x.tgt < 0) = false := by simp [h3]
                have hd4 : decide (255 < x.tgt) = false := by simp; omega
                clear h1 h2 h3 h4
                go_wp2_with fail
                go_roundw
                case rel => exact ⟨i + 1, by omega, by go_num, (by
                  rw [take_snoc HXI.out]
                  intro y hy
                  rcases List.mem_append.1 hy with hy | hy
                  · exact hin.out y hy
                  · simp at hy
                    subst hy
                    exact HIN.out), by first | rfl | trivial⟩
                case measure => simp [intOf]; omega
      · obtain rfl : i = n := by omega
        have HIN := Lib.hid (show ∀ x ∈ l, x.inR = true by have h := hin.out; rw [HL.out, List.take_length] at h; exact h)
        have HLS := Lib.hid (show l.length ≤ 120 by rw [← HL.out]; omega)
        have HS2 := Lib.hid (show SliceAt wr (.slice a i c) 7 l.length (l.flatMap AEntry.cells) by rw [← HL.out]; exact HS.out)
        clear hin hbig hlt hi
        go_wp2_with (first
          | (have hZ := HS2; clear hZ; go_at_call 24; go_must (refine (compress_any wr _ l HS2.out HOK.out (by have := HLS.out; omega) HT.out).mono ?_; rintro e w1 ⟨v1, E, R, rfl, hc1, ho1, hl1, hr1, hs1, hb1⟩; obtain ⟨ra, rc, rfl, -, -, -⟩ := hs1.form (by decide); obtain ⟨rn, hrn⟩ : ∃ rn, rn = R.length := ⟨_, rfl⟩; have HRN := Lib.hid (show R.length ≤ 360 from Nat.le_trans hr1.len (by have := HLS.out; omega)); have HRW := Lib.hid (show ∀ r ∈ R, r.Wf from fun r hr => ruleOf_wf ho1 ((hr1.mem r).1 hr)); have HSM := Lib.hid (compress_same hc1 HIN.out hr1); have HSR := Lib.hid hs1; have HB1 := Lib.hid hb1; have HRL := Lib.hid hrn; rw [← hrn] at HSR ⊢; have hd5 : decide ((rn : Int) ≤ 360) = true := (by have := HRN.out; simp; omega); have HS3 := Lib.hid (HS2.out.keep hb1); have HT1 := Lib.hid (HT.out.later hb1); clear hc1 ho1 hl1 hr1 hs1 hb1 hrn HS2 HT))
          | (have hZ := HSR; clear hZ; go_at_call 17; go_must (refine (expEntries_any w1 (.slice none 0 0) (.slice none 0 0) (.slice none 0 0) (.slice none 0 0) (.slice none 0 0) (.slice none 0 0) (.slice none 0 0) (.slice none 0 0) (.slice none 0 0) (.slice ra rn rc) (.slice none 0 0) (.slice none 0 0) (.slice none 0 0) (.slice none 0 0) (.slice none 0 0) (.slice none 0 0) (.slice none 0 0) R (by rw [← HRL.out]; exact HSR.out) HRW.out (by have := HRN.out; omega)).mono ?_; rintro e w2 ⟨v2, E2, rfl, hc2, -, -, hs2, hb2⟩; have HE2 := Lib.hid hc2; have HS4 := Lib.hid hs2; have HB2 := Lib.hid (HB1.out.trans (hb2.mono HB1.out.size)); have HS5 := Lib.hid (HS3.out.keep hb2); have HT2 := Lib.hid (HT1.out.later hb2); clear hc2 hs2 hb2 HSR HS3 HT1 HB1))
          | (have hZ := HS5; clear hZ; go_at_call 19; go_must (refine (merge_any w2 _ l HS5.out HOK.out (by have := HLS.out; omega)).mono ?_; rintro e w3 ⟨v3, E3, rfl, hc3, -, -, hs3, hb3⟩; have HEQ := Lib.hid (show E3 = E2 by have h := HE2.out; rw [HSM.out] at h; exact hc3.uniq h); have HS6 := Lib.hid (show SliceAt w3 v3 7 E2.length (E2.flatMap AEntry.cells) by rw [← HEQ.out]; exact hs3); have HS7 := Lib.hid (HS4.out.keep hb3); have HB3 := Lib.hid (HB2.out.trans (hb3.mono HB2.out.size)); have HT3 := Lib.hid (HT2.out.later hb3); clear hc3 hs3 hb3 HS4 HS5 HT2 HB2))
          | (have hZ := HS6; clear hZ; go_at_call 16; go_must (refine (same_any w3 _ _ E2 HS7.out HS6.out).mono ?_; rintro e w4 ⟨rfl, hb4⟩; have HB4 := Lib.hid (HB3.out.trans (hb4.mono HB3.out.size)); have HT4 := Lib.hid (HT3.out.later hb4); clear hb4 HS6 HS7 HB3 HT3))
          | (have hZ := HT4; clear hZ; go_at_call 13; go_must (refine (awake_any w4 HT4.out).mono ?_; rintro e w5 ⟨rfl, hb5⟩; have HB5 := Lib.hid (HB4.out.trans (hb5.mono HB4.out.size)); clear hb5 HB4 HT4)))
        go_ret
        exact ⟨rfl, HB5.out⟩
end Go.Proofs.YtmkfabdkadocdaaDoor
