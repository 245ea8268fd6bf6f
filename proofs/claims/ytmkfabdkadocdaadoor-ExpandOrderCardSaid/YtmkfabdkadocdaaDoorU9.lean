import Derived.Test.YtmkfabdkadocdaaDoorV9
import Derived.Test.YtmkfabdkadocdaaDoorV2
/-
  ExpandOrder.
-/
namespace Go.Proofs.YtmkfabdkadocdaaDoor
open Go Go.WideMaps Go.RowKit Go.Sort

theorem upd_was {L : Nat → Bool} {i j : Nat} (h : upd L i j = false) : L j = false := by
  unfold upd at h
  cases hx : L j with
  | false => rfl
  | true => rw [hx] at h; simp at h
theorem own_shape {w : World} {b : Nat} {t : TypeId} {k n : Nat} {v : Value} {xs : List Value} (h : w.ownsRow b t k v n xs) : ∃ a c, v = .slice a n c := by
  rcases h.2 with ⟨rfl, rfl⟩ | ⟨g, cap, cur, rfl, _⟩
  · exact ⟨_, _, rfl⟩
  · exact ⟨_, _, rfl⟩
theorem size41 : (Tryd.prog.info? 41).map (·.size) = some 1 := by kernel_rfl
/-- The first elements of a list that is cut at k and put together the other way round. -/
structure Rot {α : Type} (l : List α) (k i : Nat) (q : List α) : Prop where
  len : q.length = i
  at_ : ∀ j, j < i → q[j]? = l[(j + k) % l.length]?
theorem Rot.nil {α : Type} (l : List α) (k : Nat) : Rot l k 0 [] := ⟨rfl, fun j h => by omega⟩
theorem Rot.more {α : Type} {l q : List α} {k i : Nat} {x : α} (h : Rot l k i q) (hx : l[(i + k) % l.length]? = some x) : Rot l k (i + 1) (q ++ [x]) := by
  refine ⟨by simp [h.len], fun j hj => ?_⟩
  by_cases e : j = i
  · subst e
    rw [List.getElem?_append_right (by rw [h.len]; exact Nat.le_refl _), h.len, Nat.sub_self, hx]
    rfl
  · rw [List.getElem?_append_left (by rw [h.len]; omega)]
    exact h.at_ j (by omega)
theorem Rot.mem {α : Type} {l q : List α} {k : Nat} (h : Rot l k l.length q) (x : α) : x ∈ q ↔ x ∈ l := by
  constructor
  · intro hx
    obtain ⟨j, hj⟩ := List.getElem?_of_mem hx
    have hlt := (List.getElem?_eq_some_iff.1 hj).1
    rw [h.len] at hlt
    rw [h.at_ j hlt] at hj
    exact List.mem_of_getElem? hj
  · intro hx
    obtain ⟨m, hm⟩ := List.getElem?_of_mem hx
    have hlt := (List.getElem?_eq_some_iff.1 hm).1
    have hn : 0 < l.length := by omega
    have hk := Nat.mod_lt k hn
    have e : ((m + (l.length - k % l.length)) % l.length + k) % l.length = m := by
      rw [Nat.mod_add_mod]
      have h1 := Nat.div_add_mod k l.length
      have h2 : m + (l.length - k % l.length) + k = m + l.length * (k / l.length + 1) := by
        rw [Nat.mul_add, Nat.mul_one]
        omega
      rw [h2, Nat.add_mul_mod_self_left, Nat.mod_eq_of_lt hlt]
    have := h.at_ _ (Nat.mod_lt (m + (l.length - k % l.length)) hn)
    rw [e, hm] at this
    exact List.mem_of_getElem? this
set_option maxRecDepth 100000 in
set_option maxHeartbeats 4000000 in
theorem expandOrder_any (w : World) (a0 a1 a2 a3 a4 a5 a6 a7 a8 v a10 a11 a12 a13 a14 a15 a16 : Value) (rs : List ARule) (v2 : Value) (l : List AEntry) (k : Nat) (h : SliceAt w v 13 rs.length (rs.flatMap ARule.cells)) (hok : ∀ r ∈ rs, r.Wf) (h2 : SliceAt w v2 7 l.length (l.flatMap AEntry.cells)) (hok2 : ∀ x ∈ l, x.Ok) (hk : k ≤ 255) (hT : Tab w) :
    Calls Tryd.prog 9 #[.agg #[a0, a1, a2, a3, a4, a5, a6, a7, a8, v, a10, a11, a12, a13, a14, a15, a16], v2, .int .u8 (k : Int)] w fun e w' => e = .returned (.bool true) ∧ RowKit.Below w.heap.size w w' := by
  obtain ⟨i0, z0, hi0, hz0, hz1, hz2, hzs⟩ := infoOf info27
  obtain ⟨i1, z1, hi1, hy0, hy1, hy2, hys⟩ := infoOf info61
  obtain ⟨n, hn⟩ : ∃ n, n = rs.length := ⟨_, rfl⟩
  obtain ⟨ra, c, rfl, hc, hmx, hcell⟩ := h.form (by decide)
  obtain ⟨m, hm⟩ : ∃ m, m = l.length := ⟨_, rfl⟩
  obtain ⟨la, c2, rfl, hc2, hmx2, hcell2⟩ := h2.form (by decide)
  have HT := Lib.hid hT
  have HL := Lib.hid hn
  have HL2 := Lib.hid hm
  have HC := Lib.hid (And.intro hcell hc)
  have HC2 := Lib.hid (And.intro hcell2 hc2)
  have HOK := Lib.hid hok
  have HOK2 := Lib.hid hok2
  have HS := Lib.hid h
  have HS2 := Lib.hid h2
  rw [← hn] at hmx hc
  rw [← hm] at hmx2 hc2
  simp only [← hn, ← hm]
  obtain ⟨wo, hwo⟩ : ∃ wo, wo = w.alloc (.cells #[a0, a1, a2, a3, a4, a5, a6, a7, a8, .slice ra n c, a10, a11, a12, a13, a14, a15, a16] 50) := ⟨_, rfl⟩
  have HBO := Lib.hid (show RowKit.Below w.heap.size w wo by rw [hwo]; exact (Below.refl _ w).alloc (Nat.le_refl _) _)
  have HWH := Lib.hid (show Whole wo w.heap.size 50 #[a0, a1, a2, a3, a4, a5, a6, a7, a8, .slice ra n c, a10, a11, a12, a13, a14, a15, a16] by rw [hwo]; exact Whole.new w 50 _)
  have hfew := fun W (hb : RowKit.Below w.heap.size w W) => few_any W (a0) (a1) (a2) (a3) (a4) (a5) (a6) (a7) (a8) (.slice ra n c) (a10) (a11) (a12) (a13) (a14) (a15) (a16) rs (by rw [hn]; exact HS.out.keep hb) (fun r hr => (HOK.out r hr).ok)
  clear hcell hcell2 h h2 hok hok2 hT
  cases hf : fewB rs with
  | false =>
    have HFW := Lib.hid (show ∀ W, wo = W → Calls Tryd.prog 14 #[.agg #[a0, a1, a2, a3, a4, a5, a6, a7, a8, .slice ra n c, a10, a11, a12, a13, a14, a15, a16]] W (fun e w' => e = .returned (.bool false) ∧ RowKit.Below W.heap.size W w') from fun W e => by have h := hfew W (by rw [← e]; exact HBO.out); rw [hf] at h; exact h)
    clear hfew hf hn hm
    go_enter Tryd.func9, Tryd.ntmps9
    go_upto_region 1 with fail
    rw [← hwo]
    clear hwo
    go_wp2_with (first | (refine wpList_load_row rfl 50 _ rfl w.heap.size rfl 50 _ (0, 0) _ HWH.out Tryd.underlying50 rfl size50 ?_) | (have hZ := HFW; clear hZ; go_at_call 14; go_must (refine (HFW.out wo rfl).mono ?_; rintro e w1 ⟨rfl, hb1⟩; have HB1 := Lib.hid (HBO.out.trans (hb1.mono HBO.out.size)); have HPW := Lib.hid (Whole.under hb1 HWH.out HWH.out.lt); clear hb1 HFW HWH)) | (have hZ := HB1; clear hZ; go_at_call 13; go_must (refine (awake_any w1 (HT.out.later HB1.out)).mono ?_; rintro e w9 ⟨rfl, hb9⟩; have HB9 := Lib.hid (HB1.out.trans (hb9.mono HB1.out.size)); clear hb9 HB1)))
    go_ret
    exact ⟨rfl, HB9.out⟩
  | true =>
    have HFW := Lib.hid (show ∀ W, wo = W → Calls Tryd.prog 14 #[.agg #[a0, a1, a2, a3, a4, a5, a6, a7, a8, .slice ra n c, a10, a11, a12, a13, a14, a15, a16]] W (fun e w' => e = .returned (.bool true) ∧ RowKit.Below W.heap.size W w') from fun W e => by have h := hfew W (by rw [← e]; exact HBO.out); rw [hf] at h; exact h)
    have hn40 : n ≤ 40 := by rw [hn]; unfold fewB at hf; simp at hf; exact hf.1
    clear hfew hf hn hm
    by_cases hbig : 120 < m
    · have hd : decide ((120 : Int) < (m : Int)) = true := by simp; omega
      clear hbig
      go_enter Tryd.func9, Tryd.ntmps9
      go_upto_region 1 with fail
      rw [← hwo]
      clear hwo
      go_wp2_with (first | (refine wpList_load_row rfl 50 _ rfl w.heap.size rfl 50 _ (0, 0) _ HWH.out Tryd.underlying50 rfl size50 ?_) | (have hZ := HFW; clear hZ; go_at_call 14; go_must (refine (HFW.out wo rfl).mono ?_; rintro e w1 ⟨rfl, hb1⟩; have HB1 := Lib.hid (HBO.out.trans (hb1.mono HBO.out.size)); have HPW := Lib.hid (Whole.under hb1 HWH.out HWH.out.lt); clear hb1 HFW HWH)) | (have hZ := HB1; clear hZ; go_at_call 13; go_must (refine (awake_any w1 (HT.out.later HB1.out)).mono ?_; rintro e w9 ⟨rfl, hb9⟩; have HB9 := Lib.hid (HB1.out.trans (hb9.mono HB1.out.size)); clear hb9 HB1)))
      go_ret
      exact ⟨rfl, HB9.out⟩
    · have hd : decide ((120 : Int) < (m : Int)) = false := by simp; omega
      have hm120 : m ≤ 120 := by omega
      clear hbig
      go_enter Tryd.func9, Tryd.ntmps9
      go_upto_region 1 with fail
      rw [← hwo]
      clear hwo
      go_upto_region 4 with (first | (refine wpList_load_row rfl 50 _ rfl w.heap.size rfl 50 _ (0, 0) _ HWH.out Tryd.underlying50 rfl size50 ?_) | (have hZ := HFW; clear hZ; go_at_call 14; go_must (refine (HFW.out wo rfl).mono ?_; rintro e w1 ⟨rfl, hb1⟩; have HB1 := Lib.hid (HBO.out.trans (hb1.mono HBO.out.size)); have HPW := Lib.hid (Whole.under hb1 HWH.out HWH.out.lt); clear hb1 HFW HWH)))
      obtain ⟨w2, hw2⟩ : ∃ w2, w2 = w1.alloc (.cells #[.slice none 0 0, .slice none 0 0, .slice none 0 0, .slice none 0 0, .slice none 0 0, .slice none 0 0, .slice none 0 0, .slice none 0 0, .slice none 0 0, .slice none 0 0, .slice none 0 0, .slice none 0 0, .slice none 0 0, .slice none 0 0, .slice none 0 0, .slice none 0 0, .slice none 0 0] 50) := ⟨_, rfl⟩
      obtain ⟨qb, hqb⟩ : ∃ qb, qb = w1.heap.size := ⟨_, rfl⟩
      have hB12 : RowKit.Below qb w1 w2 := by rw [hw2, hqb]; exact (Below.refl _ w1).alloc (Nat.le_refl _) _
      have hpq : w.heap.size < qb := by rw [hqb]; exact HPW.out.lt
      have HLTw := Lib.hid (show w.heap.size < qb + 1 by omega)
      have HLTq := Lib.hid (show qb < qb + 1 by omega)
      have HPQ := Lib.hid hpq
      have HW2 := Lib.hid (show RowKit.Below w.heap.size w w2 from HB1.out.trans (hB12.mono (Nat.le_of_lt hpq)))
      have HP2 := Lib.hid (show Whole w2 w.heap.size 50 #[a0, a1, a2, a3, a4, a5, a6, a7, a8, .slice ra n c, a10, a11, a12, a13, a14, a15, a16] from Whole.under hB12 HPW.out hpq)
      have HQ0 := Lib.hid (show Whole w2 qb 50 #[.slice none 0 0, .slice none 0 0, .slice none 0 0, .slice none 0 0, .slice none 0 0, .slice none 0 0, .slice none 0 0, .slice none 0 0, .slice none 0 0, .slice none 0 0, .slice none 0 0, .slice none 0 0, .slice none 0 0, .slice none 0 0, .slice none 0 0, .slice none 0 0, .slice none 0 0] by rw [hw2, hqb]; exact Whole.new w1 50 _)
      have HSZ2 := Lib.hid (show qb + 1 ≤ w2.heap.size by rw [hw2, hqb]; simp)
      have k9 : w2.cell? ⟨w.heap.size, 9, none⟩ = some (.slice ra n c) := HP2.out.cell 9
      rw [← hw2, ← hqb]
      clear hw2 hqb hB12 hpq HB1 HPW
      go_wp2_with fail
      clear k9
      go_loopw [23] (fun ix wr => ∃ (i : Nat) (Q : List ARule) (u : Value), i ≤ n ∧ ix = .int .i64 i ∧ Rot rs k i Q ∧ Whole wr qb 50 #[.slice none 0 0, .slice none 0 0, .slice none 0 0, .slice none 0 0, .slice none 0 0, .slice none 0 0, .slice none 0 0, .slice none 0 0, .slice none 0 0, u, .slice none 0 0, .slice none 0 0, .slice none 0 0, .slice none 0 0, .slice none 0 0, .slice none 0 0, .slice none 0 0] ∧ wr.ownsRow (qb + 1) 27 13 u Q.length (Q.flatMap ARule.cells) ∧ RowKit.Below qb w2 wr) (fun ix _ => n - (intOf ix).toNat)
      case atStart => exact ⟨0, [], _, Nat.zero_le _, rfl, Rot.nil _ _, HQ0.out, World.ownsRow_nil _ _ _ _, Below.refl _ _⟩
      case round =>
        clear HQ0
        obtain ⟨i, Q, u, hi, rfl, hrot, hwq, how, hblw⟩ := hrel
        have HRT := Lib.hid hrot
        have HQW := Lib.hid hwq
        have HOW := Lib.hid how
        have HBR := Lib.hid hblw
        have HLTq' := Lib.hid (Nat.le_trans HSZ2.out hblw.size)
        have HPr := Lib.hid (Whole.under hblw HP2.out HPQ.out)
        clear hrot hwq how hblw
        by_cases hlt : i < n
        · obtain ⟨p, hp⟩ : ∃ p, p = (i + k) % n := ⟨_, rfl⟩
          have hpn : p < n := by rw [hp]; exact Nat.mod_lt _ (by omega)
          have hpl : p < rs.length := by rw [← HL.out]; exact hpn
          obtain ⟨x, hx⟩ : ∃ x, rs[p]? = some x := ⟨_, List.getElem?_eq_getElem hpl⟩
          have HXI := Lib.hid (show rs[(i + k) % rs.length]? = some x by rw [← HL.out, ← hp]; exact hx)
          have hrem : ((i : Int) + (k : Int)).tmod (n : Int) = (p : Int) := by rw [hp]; rfl
          have hzb : ((n : Int) == 0) = false := by simp; omega
          have hnz : ¬ (n : Int) = 0 := by omega
          obtain ⟨b, off, rfl, hcl⟩ := HC.out.1 p hpl
          have HXC := Lib.hid (show ∀ wy, RowKit.Below (qb + 1) wr wy → ∀ j q, ([.int .i64 x.kind, .int .u64 x.src.a, .int .u64 x.src.b, .int .u64 x.src.c, .int .u64 x.src.d, .int .u64 x.tgt.a, .int .u64 x.tgt.b, .int .u64 x.tgt.c, .int .u64 x.tgt.d, .bool x.self, .int .i64 x.cls, .int .u32 x.perms, .int .i64 x.cond] : List Value)[j]? = some q → wy.cell? ⟨b, off + p * 13 + j, none⟩ = some q from fun wy hb j q hq => cell_later (HW2.out.trans ((HBR.out.mono (Nat.le_of_lt HPQ.out)).trans (hb.mono (Nat.le_of_lt HLTw.out)))) (hcl j q (by
            have hj : j < 13 := (List.getElem?_eq_some_iff.1 hq).1
            rw [flat_at rule_len hx j hj]; exact hq)))
          have HQL := Lib.hid (show Q.length ≤ 40 by rw [HRT.out.len]; omega)
          clear hx hp hpl hcl
          go_upto_region 7 with fail
          refine wp_region_goods [some 26, some 27, some 28, some 29, some 30, some 31, some 32, some 33, some 34, some 35, some 36, some 37, some 38, some 39, some 40, some 41, some 42] [isW (.pointer (some ⟨qb, 9, none⟩)), isW (u), isW (.pointer (some ⟨w.heap.size, 9, none⟩)), isW (.slice (some ⟨b, off, none⟩) n c), isW (.int .i64 (i : Int)), isW (.int .u8 (k : Int)), isW (.int .i64 (k : Int)), isW (.int .i64 ((i : Int) + (k : Int))), isW (.pointer (some ⟨w.heap.size, 9, none⟩)), isW (.slice (some ⟨b, off, none⟩) n c), isW (.int .i64 (n : Int)), isW (.int .i64 (p : Int)), isW (.pointer (some ⟨b, off + p * 13, none⟩)), isW (.agg #[.int .i64 x.kind, .int .u64 x.src.a, .int .u64 x.src.b, .int .u64 x.src.c, .int .u64 x.src.d, .int .u64 x.tgt.a, .int .u64 x.tgt.b, .int .u64 x.tgt.c, .int .u64 x.tgt.d, .bool x.self, .int .i64 x.cls, .int .u32 x.perms, .int .i64 x.cond]), (fun L v w' => L 15 = false → ∃ g, v = .slice (some ⟨g, 0, none⟩) 1 1 ∧ ∀ j q, ([.int .i64 x.kind, .int .u64 x.src.a, .int .u64 x.src.b, .int .u64 x.src.c, .int .u64 x.src.d, .int .u64 x.tgt.a, .int .u64 x.tgt.b, .int .u64 x.tgt.c, .int .u64 x.tgt.d, .bool x.self, .int .i64 x.cls, .int .u32 x.perms, .int .i64 x.cond] : List Value)[j]? = some q → w'.cell? ((⟨g, 0, none⟩ : Addr).add j) = some q), (fun L v w' => L 15 = true ∧ w'.ownsRow (qb + 1) 27 13 v (Q.length + 1) (Q.flatMap ARule.cells ++ [.int .i64 x.kind, .int .u64 x.src.a, .int .u64 x.src.b, .int .u64 x.src.c, .int .u64 x.src.d, .int .u64 x.tgt.a, .int .u64 x.tgt.b, .int .u64 x.tgt.c, .int .u64 x.tgt.d, .bool x.self, .int .i64 x.cls, .int .u32 x.perms, .int .i64 x.cond])), isW (.pointer (some ⟨qb, 9, none⟩))] (fun L w' => (L 15 = false → w'.ownsRow (qb + 1) 27 13 u Q.length (Q.flatMap ARule.cells)) ∧ RowKit.Below (qb + 1) wr w') [15] (by kernel_rfl) (by kernel_rfl) (by kernel_rfl) rfl (by decide) rfl rfl (⟨fun _ => HOW.out, (RowKit.Below.refl _ _).drew⟩) ⟨lastsW_is _, lastsW_is _, lastsW_is _, lastsW_is _, lastsW_is _, lastsW_is _, lastsW_is _, lastsW_is _, lastsW_is _, lastsW_is _, lastsW_is _, lastsW_is _, lastsW_is _, lastsW_is _, (fun L i v w1 w2 hi h hb h5 => let ⟨g, e, hr⟩ := h (upd_was h5); ⟨g, e, fun j q hq => cell_later hb (hr j q hq)⟩), (fun L i v w1 w2 _ h hb => ⟨by simp [upd, h.1], own_keep hb h.2 (Nat.le_refl _)⟩), lastsW_is _, trivial⟩ ⟨?_, ?_, ?_, ?_, ?_, ?_, ?_, ?_, ?_, ?_, ?_, ?_, ?_, ?_, ?_, ?_, ?_, ?_⟩
          · intro L a wy Q' hL hi H F hK
            try dsimp only at hi
            have h7 : a.tmps[7]? = some (.pointer (some ⟨qb, 0, none⟩)) := F 7 rfl
            have HI := Lib.hid hi
            clear H F hi hL
            go_wp2_with fail
            exact hK _ _ (Below.refl _ _) HI.out rfl
          · intro L a wy Q' hL hi H F hK
            try dsimp only at hi
            obtain ⟨_, h26, rfl⟩ := H 0 ⟨.data, by simp, rfl⟩ _ rfl
            replace h26 := h26 _ rfl
            have HI := Lib.hid hi
            clear H F hi hL
            have kq0 : wy.cell? ⟨qb, 9, none⟩ = some (u) := (Whole.under HI.out.2 HQW.out HLTq.out).cell 9
            go_wp2_with fail
            exact hK _ _ (Below.refl _ _) HI.out rfl
          · intro L a wy Q' hL hi H F hK
            try dsimp only at hi
            have h3 : a.tmps[3]? = some (.pointer (some ⟨w.heap.size, 0, none⟩)) := F 3 rfl
            have HI := Lib.hid hi
            clear H F hi hL
            go_wp2_with fail
            exact hK _ _ (Below.refl _ _) HI.out rfl
          · intro L a wy Q' hL hi H F hK
            try dsimp only at hi
            obtain ⟨_, h28, rfl⟩ := H 2 ⟨.data, by simp, rfl⟩ _ rfl
            replace h28 := h28 _ rfl
            have HI := Lib.hid hi
            clear H F hi hL
            have kq0 : wy.cell? ⟨w.heap.size, 9, none⟩ = some (.slice (some ⟨b, off, none⟩) n c) := (Whole.under HI.out.2 HPr.out HLTw.out).cell 9
            go_wp2_with fail
            exact hK _ _ (Below.refl _ _) HI.out rfl
          · intro L a wy Q' hL hi H F hK
            try dsimp only at hi
            have h8 : a.tmps[8]? = some (.int .i64 (i : Int)) := F 8 rfl
            have HI := Lib.hid hi
            clear H F hi hL
            go_wp2_with fail
            exact hK _ _ (Below.refl _ _) HI.out rfl
          · intro L a wy Q' hL hi H F hK
            try dsimp only at hi
            have h2 : a.tmps[2]? = some (.int .u8 (k : Int)) := F 2 rfl
            have HI := Lib.hid hi
            clear H F hi hL
            go_wp2_with fail
            exact hK _ _ (Below.refl _ _) HI.out rfl
          · intro L a wy Q' hL hi H F hK
            try dsimp only at hi
            obtain ⟨_, h31, rfl⟩ := H 5 ⟨.data, by simp, rfl⟩ _ rfl
            replace h31 := h31 _ rfl
            have HI := Lib.hid hi
            clear H F hi hL
            go_wp2_with fail
            exact hK _ _ (Below.refl _ _) HI.out rfl
          · intro L a wy Q' hL hi H F hK
            try dsimp only at hi
            obtain ⟨_, h30, rfl⟩ := H 4 ⟨.data, by simp, rfl⟩ _ rfl
            replace h30 := h30 _ rfl
            obtain ⟨_, h32, rfl⟩ := H 6 ⟨.data, by simp, rfl⟩ _ rfl
            replace h32 := h32 _ rfl
            have HI := Lib.hid hi
            clear H F hi hL
            go_wp2_with fail
            exact hK _ _ (Below.refl _ _) HI.out rfl
          · intro L a wy Q' hL hi H F hK
            try dsimp only at hi
            have h3 : a.tmps[3]? = some (.pointer (some ⟨w.heap.size, 0, none⟩)) := F 3 rfl
            have HI := Lib.hid hi
            clear H F hi hL
            go_wp2_with fail
            exact hK _ _ (Below.refl _ _) HI.out rfl
          · intro L a wy Q' hL hi H F hK
            try dsimp only at hi
            obtain ⟨_, h34, rfl⟩ := H 8 ⟨.data, by simp, rfl⟩ _ rfl
            replace h34 := h34 _ rfl
            have HI := Lib.hid hi
            clear H F hi hL
            have kq0 : wy.cell? ⟨w.heap.size, 9, none⟩ = some (.slice (some ⟨b, off, none⟩) n c) := (Whole.under HI.out.2 HPr.out HLTw.out).cell 9
            go_wp2_with fail
            exact hK _ _ (Below.refl _ _) HI.out rfl
          · intro L a wy Q' hL hi H F hK
            try dsimp only at hi
            obtain ⟨_, h35, rfl⟩ := H 9 ⟨.data, by simp, rfl⟩ _ rfl
            replace h35 := h35 _ rfl
            have HI := Lib.hid hi
            clear H F hi hL
            go_wp2_with fail
            exact hK _ _ (Below.refl _ _) HI.out rfl
          · intro L a wy Q' hL hi H F hK
            try dsimp only at hi
            obtain ⟨_, h33, rfl⟩ := H 7 ⟨.data, by simp, rfl⟩ _ rfl
            replace h33 := h33 _ rfl
            obtain ⟨_, h36, rfl⟩ := H 10 ⟨.data, by simp, rfl⟩ _ rfl
            replace h36 := h36 _ rfl
            have HI := Lib.hid hi
            clear H F hi hL
            go_wp2_with fail
            exact hK _ _ (Below.refl _ _) HI.out rfl
          · intro L a wy Q' hL hi H F hK
            try dsimp only at hi
            obtain ⟨_, h29, rfl⟩ := H 3 ⟨.data, by simp, rfl⟩ _ rfl
            replace h29 := h29 _ rfl
            obtain ⟨_, h37, rfl⟩ := H 11 ⟨.data, by simp, rfl⟩ _ rfl
            replace h37 := h37 _ rfl
            have HI := Lib.hid hi
            clear H F hi hL
            go_wp2_with fail
            exact hK _ _ (Below.refl _ _) HI.out rfl
          · intro L a wy Q' hL hi H F hK
            try dsimp only at hi
            obtain ⟨_, h38, rfl⟩ := H 12 ⟨.data, by simp, rfl⟩ _ rfl
            replace h38 := h38 _ rfl
            have HI := Lib.hid hi
            clear H F hi hL
            have kq0 : wy.cell? ⟨b, off + p * 13, none⟩ = some (.int .i64 x.kind) := HXC.out wy HI.out.2 0 _ rfl
            have kq1 : wy.cell? ⟨b, off + p * 13 + 1, none⟩ = some (.int .u64 x.src.a) := HXC.out wy HI.out.2 1 _ rfl
            have kq2 : wy.cell? ⟨b, off + p * 13 + 2, none⟩ = some (.int .u64 x.src.b) := HXC.out wy HI.out.2 2 _ rfl
            have kq3 : wy.cell? ⟨b, off + p * 13 + 3, none⟩ = some (.int .u64 x.src.c) := HXC.out wy HI.out.2 3 _ rfl
            have kq4 : wy.cell? ⟨b, off + p * 13 + 4, none⟩ = some (.int .u64 x.src.d) := HXC.out wy HI.out.2 4 _ rfl
            have kq5 : wy.cell? ⟨b, off + p * 13 + 5, none⟩ = some (.int .u64 x.tgt.a) := HXC.out wy HI.out.2 5 _ rfl
            have kq6 : wy.cell? ⟨b, off + p * 13 + 6, none⟩ = some (.int .u64 x.tgt.b) := HXC.out wy HI.out.2 6 _ rfl
            have kq7 : wy.cell? ⟨b, off + p * 13 + 7, none⟩ = some (.int .u64 x.tgt.c) := HXC.out wy HI.out.2 7 _ rfl
            have kq8 : wy.cell? ⟨b, off + p * 13 + 8, none⟩ = some (.int .u64 x.tgt.d) := HXC.out wy HI.out.2 8 _ rfl
            have kq9 : wy.cell? ⟨b, off + p * 13 + 9, none⟩ = some (.bool x.self) := HXC.out wy HI.out.2 9 _ rfl
            have kq10 : wy.cell? ⟨b, off + p * 13 + 10, none⟩ = some (.int .i64 x.cls) := HXC.out wy HI.out.2 10 _ rfl
            have kq11 : wy.cell? ⟨b, off + p * 13 + 11, none⟩ = some (.int .u32 x.perms) := HXC.out wy HI.out.2 11 _ rfl
            have kq12 : wy.cell? ⟨b, off + p * 13 + 12, none⟩ = some (.int .i64 x.cond) := HXC.out wy HI.out.2 12 _ rfl
            go_wp2_with fail
            exact hK _ _ (Below.refl _ _) HI.out rfl
          · intro L a wy Q' hL hi H F hK
            try dsimp only at hi
            obtain ⟨_, h39, rfl⟩ := H 13 ⟨.data, by simp, rfl⟩ _ rfl
            replace h39 := h39 _ rfl
            have HI := Lib.hid hi
            clear H F hi hL
            go_wp2_with fail
            exact hK _ _ ((Below.refl _ _).alloc (Nat.le_refl _) _) ⟨fun h => own_alloc (HI.out.1 h) _, HI.out.2.alloc (Nat.le_trans HLTq'.out HI.out.2.size) _⟩ (fun _ => ⟨_, rfl, row_new _ _ _⟩)
          · intro L a wy Q' hL hi H F hK
            try dsimp only at hi
            obtain ⟨_, h27, rfl⟩ := H 1 ⟨.data, by simp, rfl⟩ _ rfl
            replace h27 := h27 _ rfl
            obtain ⟨v40, h40, hv40⟩ := H 14 ⟨.data, by simp, rfl⟩ _ rfl
            replace h40 := h40 _ rfl
            have HV40 := Lib.hid hv40
            clear hv40
            have HI := Lib.hid hi
            clear H F hi
            obtain ⟨g, rfl, hrow⟩ := HV40.out hL
            refine wpList_append_own _ rfl _ _ 41 rfl (qb + 1) 27 i0 z0 13 104 Tryd.underlying41 hi0 hz0 hz1 hz2 hzs (by decide) u Q.length (Q.flatMap ARule.cells) (by simp [Act.eval, *]) (HI.out.1 hL) ⟨g, 0, none⟩ 1 1 [.int .i64 x.kind, .int .u64 x.src.a, .int .u64 x.src.b, .int .u64 x.src.c, .int .u64 x.src.d, .int .u64 x.tgt.a, .int .u64 x.tgt.b, .int .u64 x.tgt.c, .int .u64 x.tgt.d, .bool x.self, .int .i64 x.cls, .int .u32 x.perms, .int .i64 x.cond] (by simp [Act.eval, *]) rfl hrow ?c2 ?c3 ?c4 ?c5 ?_
            case c2 => simp [Value.oneCell']
            case c3 => have := HQL.out; unfold maxLen; omega
            case c4 => have := HQL.out; omega
            case c5 => exact Nat.le_trans HLTq'.out HI.out.2.size
            intro v' w9 hown' hgrow hnil
            exact hK _ _ (show KeepAll _ _ _ _ _ _ _ _ from ⟨(fun _ _ _ _ h => h), (fun _ _ _ _ h => h), (fun _ _ _ _ h => h), (fun _ _ _ _ h => h), (fun _ _ _ _ h => h), (fun _ _ _ _ h => h), (fun _ _ _ _ h => h), (fun _ _ _ _ h => h), (fun _ _ _ _ h => h), (fun _ _ _ _ h => h), (fun _ _ _ _ h => h), (fun _ _ _ _ h => h), (fun _ _ _ _ h => h), (fun _ _ _ _ h => h), (fun _ _ _ _ _ h => by simp [upd] at h), (fun h => absurd rfl h), (fun _ _ _ _ h => h), trivial⟩) ⟨fun h => by simp [upd] at h, HI.out.2.grown hgrow (Nat.le_trans HLTq'.out HI.out.2.size) (fun q hq => ((HI.out.1 hL).lt q hq).1)⟩ ⟨by simp [upd], hown'⟩
          · intro L a wy Q' hL hi H F hK
            try dsimp only at hi
            have h7 : a.tmps[7]? = some (.pointer (some ⟨qb, 0, none⟩)) := F 7 rfl
            have HI := Lib.hid hi
            clear H F hi hL
            go_wp2_with fail
            exact hK _ _ (Below.refl _ _) HI.out rfl
          · intro a wy L hl hi hL Q' hK
            try dsimp only at hi
            have HB := Lib.hid hi
            clear hi hL
            obtain ⟨_, rfl, _, rfl, _, rfl, _, rfl, _, rfl, _, rfl, _, rfl, _, rfl, _, rfl, _, rfl, _, rfl, _, rfl, _, rfl, _, rfl, u40, hu40, u41, hu41, _, rfl, rfl⟩ := hl
            have HU40 := Lib.hid hu40
            clear hu40
            have HU41 := Lib.hid hu41
            clear hu41
            simp only [List.setIfInBounds_toArray, List.set_cons_zero, List.set_cons_succ]
            have HQ2 := Lib.hid (Whole.under HB.out.2 HQW.out HLTq.out)
            obtain ⟨ua, uc, hua⟩ := own_shape HU41.out.2
            subst hua
            go_wp2_with (refine wpList_store_blk rfl 41 _ _ rfl qb 9 (.slice ua (Q.length + 1) uc) rfl rfl 50 _ HQ2.out (by simp [Value.cells]) size41 rfl ?_; intro w9 S9 W9; have HS9 := Lib.hid S9; have HQ9 := Lib.hid (show Whole w9 qb 50 #[.slice none 0 0, .slice none 0 0, .slice none 0 0, .slice none 0 0, .slice none 0 0, .slice none 0 0, .slice none 0 0, .slice none 0 0, .slice none 0 0, .slice ua (Q.length + 1) uc, .slice none 0 0, .slice none 0 0, .slice none 0 0, .slice none 0 0, .slice none 0 0, .slice none 0 0, .slice none 0 0] from W9); clear S9 W9)
            go_roundw
            case rel => exact ⟨i + 1, Q ++ [x], .slice ua (Q.length + 1) uc, by omega, by go_num, HRT.out.more HXI.out, HQ9.out, (by have h := HS9.out.own HU41.out.2 (own_far HU41.out.2 (Nat.lt_succ_self _)); rw [List.length_append, List.flatMap_append]; simpa [ARule.cells] using h), (HBR.out.trans (HB.out.2.mono (Nat.le_succ qb))).trans (HS9.out.below (Nat.le_refl qb))⟩
            case measure => simp [intOf]; omega
        · obtain rfl : i = n := by omega
          have HQL := Lib.hid (show Q.length ≤ 40 by rw [HRT.out.len]; omega)
          obtain ⟨wL, rfl⟩ : ∃ wL : World, wL = wr := ⟨_, rfl⟩
          have hlc := HC2
          go_wp2_with fail
          go_loopw [46, 9] (fun ix um wr => ∃ (i : Nat) (M : List AEntry), i ≤ m ∧ ix = .int .i64 i ∧ Rot l k i M ∧ wr.ownsRow wL.heap.size 61 7 um M.length (M.flatMap AEntry.cells) ∧ RowKit.Below wL.heap.size wL wr) (fun ix _ _ => m - (intOf ix).toNat)
          case atStart => exact ⟨0, [], Nat.zero_le _, rfl, Rot.nil _ _, World.ownsRow_nil _ _ _ _, Below.refl _ _⟩
          case round =>
            obtain ⟨j, M, hj, rfl, hrot, how, hblw⟩ := hrel
            have HRM := Lib.hid hrot
            have HOM := Lib.hid how
            have HBM := Lib.hid hblw
            have HWm := Lib.hid (show RowKit.Below w.heap.size w wr from HW2.out.trans ((HBR.out.mono (Nat.le_of_lt HPQ.out)).trans (hblw.mono (by have := HW2.out.size; have := HBR.out.size; omega))))
            clear hrot how hblw
            by_cases hjl : j < m
            · obtain ⟨p, hp⟩ : ∃ p, p = (j + k) % m := ⟨_, rfl⟩
              have hpn : p < m := by rw [hp]; exact Nat.mod_lt _ (by omega)
              have hpl : p < l.length := by rw [← HL2.out]; exact hpn
              obtain ⟨x, hx⟩ : ∃ x, l[p]? = some x := ⟨_, List.getElem?_eq_getElem hpl⟩
              have HXI := Lib.hid (show l[(j + k) % l.length]? = some x by rw [← HL2.out, ← hp]; exact hx)
              have hrem : ((j : Int) + (k : Int)).tmod (m : Int) = (p : Int) := by rw [hp]; rfl
              have hzb : ((m : Int) == 0) = false := by simp; omega
              have hnz : ¬ (m : Int) = 0 := by omega
              obtain ⟨b2, off2, rfl, hcl⟩ := HC2.out.1 p hpl
              have q0 : wr.cell? ⟨b2, off2 + p * 7, none⟩ = some (.int .i64 x.src) := cell_later HWm.out (hcl 0 _ (by rw [flat_at entry_len hx 0 (by decide)]; rfl))
              have q1 : wr.cell? ⟨b2, off2 + p * 7 + 1, none⟩ = some (.int .i64 x.tgt) := cell_later HWm.out (hcl 1 _ (by rw [flat_at entry_len hx 1 (by decide)]; rfl))
              have q2 : wr.cell? ⟨b2, off2 + p * 7 + 2, none⟩ = some (.int .i64 x.cls) := cell_later HWm.out (hcl 2 _ (by rw [flat_at entry_len hx 2 (by decide)]; rfl))
              have q3 : wr.cell? ⟨b2, off2 + p * 7 + 3, none⟩ = some (.int .i64 x.cond) := cell_later HWm.out (hcl 3 _ (by rw [flat_at entry_len hx 3 (by decide)]; rfl))
              have q4 : wr.cell? ⟨b2, off2 + p * 7 + 4, none⟩ = some (.int .u32 x.allow) := cell_later HWm.out (hcl 4 _ (by rw [flat_at entry_len hx 4 (by decide)]; rfl))
              have q5 : wr.cell? ⟨b2, off2 + p * 7 + 5, none⟩ = some (.int .u32 x.audit) := cell_later HWm.out (hcl 5 _ (by rw [flat_at entry_len hx 5 (by decide)]; rfl))
              have q6 : wr.cell? ⟨b2, off2 + p * 7 + 6, none⟩ = some (.int .u32 x.dont) := cell_later HWm.out (hcl 6 _ (by rw [flat_at entry_len hx 6 (by decide)]; rfl))
              have HML := Lib.hid (show M.length ≤ 120 by rw [HRM.out.len]; omega)
              clear hx hp hpl hcl
              go_wp2_with (at_builtin; go_must (refine wpList_append_own _ rfl _ _ 52 rfl wL.heap.size 61 i1 z1 7 48 Tryd.underlying52 hi1 hy0 hy1 hy2 hys (by decide) _ _ _ rfl (own_alloc HOM.out _) ⟨wr.heap.size, 0, none⟩ 1 1 [.int .i64 x.src, .int .i64 x.tgt, .int .i64 x.cls, .int .i64 x.cond, .int .u32 x.allow, .int .u32 x.audit, .int .u32 x.dont] rfl rfl (row_new _ _ _) ?c2 ?c3 ?c4 ?c5 ?_))
              case c2 => simp [Value.oneCell']
              case c3 => have := HML.out; unfold maxLen; omega
              case c4 => have := HML.out; omega
              case c5 => have := HBM.out.size; simp; omega
              intro v' w9 hown' hgrow hnil
              have HB9 := Lib.hid ((HBM.out.alloc HBM.out.size _).grown hgrow (by have := HBM.out.size; simp; omega) (fun q hq => (HOM.out.lt q hq).1))
              have HOWN9 := Lib.hid hown'
              clear hgrow hnil hown' q0 q1 q2 q3 q4 q5 q6
              go_wp2
              go_roundw
              case rel => exact ⟨j + 1, M ++ [x], by omega, by go_num, HRM.out.more HXI.out, (by rw [List.length_append, List.flatMap_append]; simpa [AEntry.cells] using HOWN9.out), HB9.out⟩
              case measure => simp [intOf]; omega
            · obtain rfl : j = m := by omega
              obtain ⟨wf, rfl⟩ : ∃ wf : World, wf = wr := ⟨_, rfl⟩
              have hqL : qb + 1 ≤ wL.heap.size := HLTq'.out
              have HPf := Lib.hid (Whole.under HBM.out HPr.out (by have := HPQ.out; omega))
              have HQf := Lib.hid (Whole.under HBM.out HQW.out (by omega))
              have HSr := Lib.hid (show SliceAt wf (.slice ra i c) 13 rs.length (rs.flatMap ARule.cells) by rw [HL.out]; exact HS.out.keep HWm.out)
              have HSl := Lib.hid (show SliceAt wf (.slice la j c2) 7 l.length (l.flatMap AEntry.cells) by rw [HL2.out]; exact HS2.out.keep HWm.out)
              have HSq := Lib.hid ((SliceAt.of_own (own_keep HBM.out HOW.out (Nat.le_refl _)) (fun v hv => by obtain ⟨r, -, hr⟩ := List.mem_flatMap.1 hv; exact rcells_one r v hr)))
              have HSm := Lib.hid (SliceAt.of_own HOM.out (ecells_one _))
              have HMR := Lib.hid (fun r => (show Rot rs k rs.length Q by rw [← HL.out]; exact HRT.out).mem r)
              have HMM := Lib.hid (fun r => (show Rot l k l.length M by rw [← HL2.out]; exact HRM.out).mem r)
              have HRE := Lib.hid (show accum (kvR Q) = accum (kvR rs) from (rules_ext HOK.out (fun r => (HMR.out r).symm)).symm)
              have HME := Lib.hid (show accE M = accE l from (ents_ext HOK2.out (fun r => (HMM.out r).symm)).symm)
              have HOKQ := Lib.hid (show ∀ r ∈ Q, r.Wf from fun r hr => HOK.out r ((HMR.out r).1 hr))
              have HOKM := Lib.hid (show ∀ r ∈ M, r.Ok from fun r hr => HOK2.out r ((HMM.out r).1 hr))
              have HN := Lib.hid (show rs.length ≤ 40 ∧ Q.length ≤ 40 ∧ l.length ≤ 120 ∧ M.length ≤ 120 from ⟨by rw [← HL.out]; exact hn40, HQL.out, by rw [← HL2.out]; exact hm120, by rw [HRM.out.len]; exact hm120⟩)
              have HTf := Lib.hid (HT.out.later HWm.out)
              go_upto_region 15 with fail
              refine order_region wf w.heap.size qb a0 a1 a2 a3 a4 a5 a6 a7 a8 a10 a11 a12 a13 a14 a15 a16 u _ ra la i c j c2 rs Q l M _ _ _ _ _ _ _ _ _ _ _ _ _ _ _ _ _ _ _ _ _ _ _ _ _ _ _ _ _ _ _ _ _ _ _ _ _ _ _ _ _ _ _ _ _ _ _ _ _ _ _ _ _ _ _ _ _ _ _ _ _ _ _ _ _ _ _ _ _ _ _ _ _ _ _ _ _ _ _ _ _ HTf.out HPf HQf HSr HSl HSq HSm HRE HME HOK HOKQ HOK2 HOKM HN ?_
              intro tmps wx h0 hbx
              have HG := Lib.hid (HWm.out.trans (hbx.mono HWm.out.size))
              go_wp2_with fail
              refine bodyPost_ret (v := .bool true) ?_ rfl ⟨rfl, HG.out⟩
              simp [results, Tryd.results9, h0]
end Go.Proofs.YtmkfabdkadocdaaDoor
