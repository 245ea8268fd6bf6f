import Derived.Test.YtmkfabdkadocdaaDoorO6
/-
  expand.Never.
-/
namespace Go.Proofs.YtmkfabdkadocdaaDoor
open Go Go.WideMaps Go.RowKit Go.Sort

/-- Whether a rule forbids what an entry is about. -/
def ARule.forb (r : ARule) (x : AEntry) : Bool := decide (r.kind = 4) && decide (r.cls = x.cls) && r.fit x.src x.tgt
def neverStep (x : AEntry) (v : Int) (r : ARule) : Int := if r.forb x then bits .or .u32 v (bits .and .u32 r.perms x.allow) else v
def neverBits (l : List ARule) (x : AEntry) : Int := l.foldl (neverStep x) 0
def neverE (x : AEntry) (v : Int) : AEntry := ⟨x.src, x.tgt, x.cls, x.cond, v, 0, 0⟩
def neverL (l : List ARule) (E : List AEntry) : List AEntry := (E.filter fun x => decide (neverBits l x ≠ 0)).map fun x => neverE x (neverBits l x)
theorem never_next {l : List ARule} {i : Nat} {r : ARule} {x : AEntry} (h : l[i]? = some r) : neverBits (l.take (i + 1)) x = neverStep x (neverBits (l.take i) x) r := by
  unfold neverBits
  rw [take_snoc h, List.foldl_append]
  rfl
theorem never_no {l : List ARule} {i : Nat} {r : ARule} {x : AEntry} (h : l[i]? = some r) (hf : r.forb x = false) : neverBits (l.take (i + 1)) x = neverBits (l.take i) x := by
  rw [never_next h]; unfold neverStep; rw [if_neg (by simp [hf])]
theorem never_yes {l : List ARule} {i : Nat} {r : ARule} {x : AEntry} (h : l[i]? = some r) (hf : r.forb x = true) : neverBits (l.take (i + 1)) x = bits .or .u32 (neverBits (l.take i) x) (bits .and .u32 r.perms x.allow) := by
  rw [never_next h]; unfold neverStep; rw [if_pos hf]
theorem neverL_next {l : List ARule} {E : List AEntry} {i : Nat} {x : AEntry} (h : E[i]? = some x) : neverL l (E.take (i + 1)) = neverL l (E.take i) ++ (if neverBits l x = 0 then [] else [neverE x (neverBits l x)]) := by
  unfold neverL
  rw [take_snoc h, List.filter_append, List.map_append]
  congr 1
  by_cases hz : neverBits l x = 0 <;> simp [hz]
theorem neverL_len (l : List ARule) (E : List AEntry) : (neverL l E).length ≤ E.length := by
  unfold neverL; rw [List.length_map]; exact List.length_filter_le _ _
set_option maxRecDepth 100000 in
set_option maxHeartbeats 1000000 in
theorem never_any (w : World) (a0 a1 a2 a3 a4 a5 a6 a7 a8 v a10 a11 a12 a13 a14 a15 a16 : Value) (l : List ARule) (h : SliceAt w v 13 l.length (l.flatMap ARule.cells)) (hok : ∀ r ∈ l, r.Wf) (hlen : l.length ≤ 1000) :
    Calls Tryd.prog 21 #[.agg #[a0, a1, a2, a3, a4, a5, a6, a7, a8, v, a10, a11, a12, a13, a14, a15, a16]] w fun e w' => ∃ v' E, e = .returned v' ∧ Canon (accum (kvR l)) E ∧ SliceAt w' v' 7 (neverL l E).length ((neverL l E).flatMap AEntry.cells) ∧ RowKit.Below w.heap.size w w' := by
  obtain ⟨i0, z, hi, hz0, hz1, hz2, hzs⟩ := infoOf info61
  obtain ⟨n, hn⟩ : ∃ n, n = l.length := ⟨_, rfl⟩
  obtain ⟨a, c, rfl, hc, hmx, hcell⟩ := h.form (by decide)
  have HL := Lib.hid hn
  have HC := Lib.hid (And.intro hcell hc)
  have HOK := Lib.hid hok
  have hlen' := hlen
  rw [← hn] at hlen' hmx hc
  obtain ⟨wo, hwo⟩ : ∃ wo, wo = w.alloc (.cells #[a0, a1, a2, a3, a4, a5, a6, a7, a8, .slice a n c, a10, a11, a12, a13, a14, a15, a16] 50) := ⟨_, rfl⟩
  have HWO := Lib.hid (show RowKit.Below w.heap.size w wo by rw [hwo]; exact (Below.refl _ w).alloc (Nat.le_refl _) _)
  have HWH := Lib.hid (show Whole wo w.heap.size 50 #[a0, a1, a2, a3, a4, a5, a6, a7, a8, .slice a n c, a10, a11, a12, a13, a14, a15, a16] by rw [hwo]; exact Whole.new w 50 _)
  have HC17 := Lib.hid (expEntries_any wo (a0) (a1) (a2) (a3) (a4) (a5) (a6) (a7) (a8) (.slice a n c) (a10) (a11) (a12) (a13) (a14) (a15) (a16) l (by rw [hn]; exact h.keep HWO.out) hok hlen)
  have HK9 := Lib.hid (show wo.cell? ⟨w.heap.size, 9, none⟩ = some (.slice a n c) from HWH.out.cell 9)
  simp only [← hn] at HC17 ⊢
  clear hn hcell h hok hlen
  go_enter Tryd.func21, Tryd.ntmps21
  go_upto_region 2 with fail
  rw [← hwo]
  clear hwo
  go_wp2_with (first | (refine wpList_load_row rfl 50 _ rfl w.heap.size rfl 50 _ (0, 0) _ HWH.out Tryd.underlying50 rfl size50 ?_) | (go_at_call 17; go_must (refine HC17.out.mono ?_; rintro e w1 ⟨v1, E, rfl, hc1, ho1, hl1, hs1, hb1⟩; obtain ⟨a1, c1, rfl, hc1', hm1, hcl1⟩ := hs1.form (by decide); have HE := Lib.hid (And.intro hc1 (And.intro ho1 hcl1)); have HB2 := Lib.hid hb1; have HB1 := Lib.hid (HWO.out.trans (hb1.mono HWO.out.size)); obtain ⟨m, hm⟩ : ∃ m, m = E.length := ⟨_, rfl⟩; have HEM := Lib.hid hm; rw [← hm] at hl1 hc1' hm1 ⊢; clear hc1 ho1 hs1 hb1 hcl1 hm HC17 HWH)))
  go_loopw [12, 3] (fun i u wr => ∃ k : Nat, k ≤ m ∧ i = .int .i64 k ∧ wr.ownsRow w1.heap.size 61 7 u (neverL l (E.take k)).length ((neverL l (E.take k)).flatMap AEntry.cells) ∧ RowKit.Below w1.heap.size w1 wr) (fun i _ _ => m - (intOf i).toNat)
  case atStart => exact ⟨0, Nat.zero_le _, rfl, World.ownsRow_nil _ _ _ _, Below.refl _ _⟩
  case round =>
    obtain ⟨wz, rfl⟩ : ∃ wz : World, wz = wr := ⟨_, rfl⟩
    obtain ⟨i, hi', rfl, hR⟩ := hrel
    have HR := Lib.hid hR
    clear hR
    by_cases hlt : i < m
    · have hln : i < E.length := by rw [← HEM.out]; exact hlt
      obtain ⟨x, hx⟩ : ∃ x, E[i]? = some x := ⟨_, List.getElem?_eq_getElem hln⟩
      have HXI := Lib.hid hx
      obtain ⟨b, off, rfl, hcl⟩ := HE.out.2.2 i hln
      have e0 : wz.cell? ⟨b, off + i * 7, none⟩ = some (.int .i64 x.src) := cell_later HR.out.2 (hcl 0 _ (by rw [flat_at entry_len hx 0 (by decide)]; rfl))
      have e1 : wz.cell? ⟨b, off + i * 7 + 1, none⟩ = some (.int .i64 x.tgt) := cell_later HR.out.2 (hcl 1 _ (by rw [flat_at entry_len hx 1 (by decide)]; rfl))
      have e2 : wz.cell? ⟨b, off + i * 7 + 2, none⟩ = some (.int .i64 x.cls) := cell_later HR.out.2 (hcl 2 _ (by rw [flat_at entry_len hx 2 (by decide)]; rfl))
      have e3 : wz.cell? ⟨b, off + i * 7 + 3, none⟩ = some (.int .i64 x.cond) := cell_later HR.out.2 (hcl 3 _ (by rw [flat_at entry_len hx 3 (by decide)]; rfl))
      have e4 : wz.cell? ⟨b, off + i * 7 + 4, none⟩ = some (.int .u32 x.allow) := cell_later HR.out.2 (hcl 4 _ (by rw [flat_at entry_len hx 4 (by decide)]; rfl))
      have e5 : wz.cell? ⟨b, off + i * 7 + 5, none⟩ = some (.int .u32 x.audit) := cell_later HR.out.2 (hcl 5 _ (by rw [flat_at entry_len hx 5 (by decide)]; rfl))
      have e6 : wz.cell? ⟨b, off + i * 7 + 6, none⟩ = some (.int .u32 x.dont) := cell_later HR.out.2 (hcl 6 _ (by rw [flat_at entry_len hx 6 (by decide)]; rfl))
      clear hx hcl hln
      go_wp2_with (refine wpList_store_blk rfl 61 _ _ rfl wz.heap.size 0 (.agg #[.int .i64 x.src, .int .i64 x.tgt, .int .i64 x.cls, .int .i64 x.cond, .int .u32 x.allow, .int .u32 x.audit, .int .u32 x.dont]) rfl rfl 61 _ (Whole.new wz 61 _) (by simp [Value.cells]) size61 rfl ?_; intro w3 SE1 WE1; rw [splice_all _ _ (by rfl)] at WE1; have HSE1 := Lib.hid SE1; have HE1 := Lib.hid (show Whole w3 wz.heap.size 61 #[.int .i64 x.src, .int .i64 x.tgt, .int .i64 x.cls, .int .i64 x.cond, .int .u32 x.allow, .int .u32 x.audit, .int .u32 x.dont] from WE1); clear SE1 WE1 e0 e1 e2 e3 e4 e5 e6; have HBz := Lib.hid (((Below.refl _ wz).alloc (Nat.le_refl _) _).trans (HSE1.out.below (Nat.le_refl _))); have HB3 := Lib.hid (HR.out.2.trans ((((Below.refl _ wz).alloc (Nat.le_refl _) _).trans (HSE1.out.below (Nat.le_refl _))).mono HR.out.2.size)); have HBW := Lib.hid (HB1.out.trans (HB3.out.mono HB1.out.size)); have k9 : w3.cell? ⟨w.heap.size, 9, none⟩ = some (.slice a n c) := cell_later (HB2.out.trans (HB3.out.mono HB2.out.size)) HK9.out)
      have HX3 := HE1
      clear HSE1 HE1
      go_loopw [19, 6] (fun u V wq => ∃ j : Nat, j ≤ n ∧ u = .int .i64 j ∧ V = .int .u32 (neverBits (l.take j) x) ∧ RowKit.Below w3.heap.size w3 wq) (fun u _ _ => n - (intOf u).toNat)
      case atStart => exact ⟨0, Nat.zero_le _, rfl, by simp [neverBits], Below.refl _ _⟩
      case round =>
        clear k9
        obtain ⟨j, hj, rfl, rfl, hI⟩ := hrel
        have HI := Lib.hid hI
        have HXq := Lib.hid (Whole.under hI HX3.out HX3.out.lt)
        have HBq := Lib.hid (HBW.out.trans (hI.mono HBW.out.size))
        clear hI
        obtain ⟨V, hV⟩ : ∃ V, V = neverBits (l.take j) x := ⟨_, rfl⟩
        have HV := Lib.hid hV
        rw [← hV]
        by_cases hjl : j < n
        · have hjn : j < l.length := by rw [← HL.out]; exact hjl
          obtain ⟨r, hr⟩ : ∃ r, l[j]? = some r := ⟨_, List.getElem?_eq_getElem hjn⟩
          have HRI := Lib.hid hr
          have HRK := Lib.hid (HOK.out r (List.mem_of_getElem? hr)).ok
          obtain ⟨b2, off2, rfl, hcl⟩ := HC.out.1 j hjn
          have e0 : wr.cell? ⟨b2, off2 + j * 13, none⟩ = some (.int .i64 r.kind) := cell_later HBq.out (hcl 0 _ (by rw [flat_at rule_len hr 0 (by decide)]; rfl))
          have e1 : wr.cell? ⟨b2, off2 + j * 13 + 1, none⟩ = some (.int .u64 r.src.a) := cell_later HBq.out (hcl 1 _ (by rw [flat_at rule_len hr 1 (by decide)]; rfl))
          have e2 : wr.cell? ⟨b2, off2 + j * 13 + 2, none⟩ = some (.int .u64 r.src.b) := cell_later HBq.out (hcl 2 _ (by rw [flat_at rule_len hr 2 (by decide)]; rfl))
          have e3 : wr.cell? ⟨b2, off2 + j * 13 + 3, none⟩ = some (.int .u64 r.src.c) := cell_later HBq.out (hcl 3 _ (by rw [flat_at rule_len hr 3 (by decide)]; rfl))
          have e4 : wr.cell? ⟨b2, off2 + j * 13 + 4, none⟩ = some (.int .u64 r.src.d) := cell_later HBq.out (hcl 4 _ (by rw [flat_at rule_len hr 4 (by decide)]; rfl))
          have e5 : wr.cell? ⟨b2, off2 + j * 13 + 5, none⟩ = some (.int .u64 r.tgt.a) := cell_later HBq.out (hcl 5 _ (by rw [flat_at rule_len hr 5 (by decide)]; rfl))
          have e6 : wr.cell? ⟨b2, off2 + j * 13 + 6, none⟩ = some (.int .u64 r.tgt.b) := cell_later HBq.out (hcl 6 _ (by rw [flat_at rule_len hr 6 (by decide)]; rfl))
          have e7 : wr.cell? ⟨b2, off2 + j * 13 + 7, none⟩ = some (.int .u64 r.tgt.c) := cell_later HBq.out (hcl 7 _ (by rw [flat_at rule_len hr 7 (by decide)]; rfl))
          have e8 : wr.cell? ⟨b2, off2 + j * 13 + 8, none⟩ = some (.int .u64 r.tgt.d) := cell_later HBq.out (hcl 8 _ (by rw [flat_at rule_len hr 8 (by decide)]; rfl))
          have e9 : wr.cell? ⟨b2, off2 + j * 13 + 9, none⟩ = some (.bool r.self) := cell_later HBq.out (hcl 9 _ (by rw [flat_at rule_len hr 9 (by decide)]; rfl))
          have e10 : wr.cell? ⟨b2, off2 + j * 13 + 10, none⟩ = some (.int .i64 r.cls) := cell_later HBq.out (hcl 10 _ (by rw [flat_at rule_len hr 10 (by decide)]; rfl))
          have e11 : wr.cell? ⟨b2, off2 + j * 13 + 11, none⟩ = some (.int .u32 r.perms) := cell_later HBq.out (hcl 11 _ (by rw [flat_at rule_len hr 11 (by decide)]; rfl))
          have e12 : wr.cell? ⟨b2, off2 + j * 13 + 12, none⟩ = some (.int .i64 r.cond) := cell_later HBq.out (hcl 12 _ (by rw [flat_at rule_len hr 12 (by decide)]; rfl))
          clear hr hcl hjn
          by_cases h4 : r.kind = 4
          · have hk : (r.kind == 4) = true := by simp [h4]
            by_cases hcs : r.cls = x.cls
            · have hk2 : (r.cls == x.cls) = true := by simp [hcs]
              by_cases hf : r.fit x.src x.tgt = true
              · have HF := Lib.hid (show ∀ W, Calls Tryd.prog 36 #[.agg #[.int .i64 r.kind, .int .u64 r.src.a, .int .u64 r.src.b, .int .u64 r.src.c, .int .u64 r.src.d, .int .u64 r.tgt.a, .int .u64 r.tgt.b, .int .u64 r.tgt.c, .int .u64 r.tgt.d, .bool r.self, .int .i64 r.cls, .int .u32 r.perms, .int .i64 r.cond], .int .i64 x.src, .int .i64 x.tgt] W (fun e w' => e = .returned (.bool true) ∧ RowKit.Below W.heap.size W w') from fun W => by have h := matches_any W r HRK.out x.src x.tgt; rw [hf] at h; exact h)
                have HFB := Lib.hid (show r.forb x = true by unfold ARule.forb; simp [h4, hcs, hf])
                clear h4 hcs hf hV
                go_wp2_with (first | (refine wpList_store_blk rfl 27 _ _ rfl wr.heap.size 0 (.agg #[.int .i64 r.kind, .int .u64 r.src.a, .int .u64 r.src.b, .int .u64 r.src.c, .int .u64 r.src.d, .int .u64 r.tgt.a, .int .u64 r.tgt.b, .int .u64 r.tgt.c, .int .u64 r.tgt.d, .bool r.self, .int .i64 r.cls, .int .u32 r.perms, .int .i64 r.cond]) rfl rfl 27 _ (Whole.new wr 27 _) (by simp [Value.cells]) size27 rfl ?_; intro w4 SE2 WE2; rw [splice_all _ _ (by rfl)] at WE2; have HSE2 := Lib.hid SE2; have HE2 := Lib.hid (show Whole w4 wr.heap.size 27 #[.int .i64 r.kind, .int .u64 r.src.a, .int .u64 r.src.b, .int .u64 r.src.c, .int .u64 r.src.d, .int .u64 r.tgt.a, .int .u64 r.tgt.b, .int .u64 r.tgt.c, .int .u64 r.tgt.d, .bool r.self, .int .i64 r.cls, .int .u32 r.perms, .int .i64 r.cond] from WE2); clear SE2 WE2 e0 e1 e2 e3 e4 e5 e6 e7 e8 e9 e10 e11 e12; have HX4 := Lib.hid (HSE2.out.whole (HXq.out.alloc _) (by have := HXq.out.lt; omega)); have HB4 := Lib.hid ((((Below.refl _ wr).alloc (Nat.le_refl _) _).trans (HSE2.out.below (Nat.le_refl _)))); have k0 : w4.cell? ⟨wr.heap.size, 0, none⟩ = some (.int .i64 r.kind) := HE2.out.cell 0; have k1 : w4.cell? ⟨wr.heap.size, 1, none⟩ = some (.int .u64 r.src.a) := HE2.out.cell 1; have k2 : w4.cell? ⟨wr.heap.size, 2, none⟩ = some (.int .u64 r.src.b) := HE2.out.cell 2; have k3 : w4.cell? ⟨wr.heap.size, 3, none⟩ = some (.int .u64 r.src.c) := HE2.out.cell 3; have k4 : w4.cell? ⟨wr.heap.size, 4, none⟩ = some (.int .u64 r.src.d) := HE2.out.cell 4; have k5 : w4.cell? ⟨wr.heap.size, 5, none⟩ = some (.int .u64 r.tgt.a) := HE2.out.cell 5; have k6 : w4.cell? ⟨wr.heap.size, 6, none⟩ = some (.int .u64 r.tgt.b) := HE2.out.cell 6; have k7 : w4.cell? ⟨wr.heap.size, 7, none⟩ = some (.int .u64 r.tgt.c) := HE2.out.cell 7; have k8 : w4.cell? ⟨wr.heap.size, 8, none⟩ = some (.int .u64 r.tgt.d) := HE2.out.cell 8; have k9 : w4.cell? ⟨wr.heap.size, 9, none⟩ = some (.bool r.self) := HE2.out.cell 9; have k10 : w4.cell? ⟨wr.heap.size, 10, none⟩ = some (.int .i64 r.cls) := HE2.out.cell 10; have k11 : w4.cell? ⟨wr.heap.size, 11, none⟩ = some (.int .u32 r.perms) := HE2.out.cell 11; have k12 : w4.cell? ⟨wr.heap.size, 12, none⟩ = some (.int .i64 r.cond) := HE2.out.cell 12; have q2 : w4.cell? ⟨wz.heap.size, 2, none⟩ = some (.int .i64 x.cls) := HX4.out.cell 2; have q0 : w4.cell? ⟨wz.heap.size, 0, none⟩ = some (.int .i64 x.src) := HX4.out.cell 0; have q1 : w4.cell? ⟨wz.heap.size, 1, none⟩ = some (.int .i64 x.tgt) := HX4.out.cell 1; have q4 : w4.cell? ⟨wz.heap.size, 4, none⟩ = some (.int .u32 x.allow) := HX4.out.cell 4) | (have hZ := HF; clear hZ; go_at_call 36; go_must (refine ((HF.out w4)).mono ?_; rintro e w5 ⟨rfl, hb5⟩; have HB5 := Lib.hid (HB4.out.trans (hb5.mono HB4.out.size)); have HE5 := Lib.hid (Whole.under hb5 HE2.out HE2.out.lt); have HX5 := Lib.hid (Whole.under hb5 HX4.out HX4.out.lt); clear hb5 HF HE2 HX4 HSE2 HB4 k0 k1 k2 k3 k4 k5 k6 k7 k8 k9 k10 k11 k12 q0 q1 q2 q4; have k11 : w5.cell? ⟨wr.heap.size, 11, none⟩ = some (.int .u32 r.perms) := HE5.out.cell 11; have q4 : w5.cell? ⟨wz.heap.size, 4, none⟩ = some (.int .u32 x.allow) := HX5.out.cell 4)))
                go_roundw
                case rel => exact ⟨j + 1, by omega, by go_num, by rw [never_yes HRI.out HFB.out, ← HV.out], HI.out.trans (HB5.out.mono HI.out.size)⟩
                case measure => simp [intOf]; omega
              · have hf' := Bool.eq_false_iff.2 hf
                have HF := Lib.hid (show ∀ W, Calls Tryd.prog 36 #[.agg #[.int .i64 r.kind, .int .u64 r.src.a, .int .u64 r.src.b, .int .u64 r.src.c, .int .u64 r.src.d, .int .u64 r.tgt.a, .int .u64 r.tgt.b, .int .u64 r.tgt.c, .int .u64 r.tgt.d, .bool r.self, .int .i64 r.cls, .int .u32 r.perms, .int .i64 r.cond], .int .i64 x.src, .int .i64 x.tgt] W (fun e w' => e = .returned (.bool false) ∧ RowKit.Below W.heap.size W w') from fun W => by have h := matches_any W r HRK.out x.src x.tgt; rw [hf'] at h; exact h)
                have HFB := Lib.hid (show r.forb x = false by unfold ARule.forb; simp [h4, hcs, hf'])
                clear h4 hcs hf hf' hV
                go_wp2_with (first | (refine wpList_store_blk rfl 27 _ _ rfl wr.heap.size 0 (.agg #[.int .i64 r.kind, .int .u64 r.src.a, .int .u64 r.src.b, .int .u64 r.src.c, .int .u64 r.src.d, .int .u64 r.tgt.a, .int .u64 r.tgt.b, .int .u64 r.tgt.c, .int .u64 r.tgt.d, .bool r.self, .int .i64 r.cls, .int .u32 r.perms, .int .i64 r.cond]) rfl rfl 27 _ (Whole.new wr 27 _) (by simp [Value.cells]) size27 rfl ?_; intro w4 SE2 WE2; rw [splice_all _ _ (by rfl)] at WE2; have HSE2 := Lib.hid SE2; have HE2 := Lib.hid (show Whole w4 wr.heap.size 27 #[.int .i64 r.kind, .int .u64 r.src.a, .int .u64 r.src.b, .int .u64 r.src.c, .int .u64 r.src.d, .int .u64 r.tgt.a, .int .u64 r.tgt.b, .int .u64 r.tgt.c, .int .u64 r.tgt.d, .bool r.self, .int .i64 r.cls, .int .u32 r.perms, .int .i64 r.cond] from WE2); clear SE2 WE2 e0 e1 e2 e3 e4 e5 e6 e7 e8 e9 e10 e11 e12; have HX4 := Lib.hid (HSE2.out.whole (HXq.out.alloc _) (by have := HXq.out.lt; omega)); have HB4 := Lib.hid ((((Below.refl _ wr).alloc (Nat.le_refl _) _).trans (HSE2.out.below (Nat.le_refl _)))); have k0 : w4.cell? ⟨wr.heap.size, 0, none⟩ = some (.int .i64 r.kind) := HE2.out.cell 0; have k1 : w4.cell? ⟨wr.heap.size, 1, none⟩ = some (.int .u64 r.src.a) := HE2.out.cell 1; have k2 : w4.cell? ⟨wr.heap.size, 2, none⟩ = some (.int .u64 r.src.b) := HE2.out.cell 2; have k3 : w4.cell? ⟨wr.heap.size, 3, none⟩ = some (.int .u64 r.src.c) := HE2.out.cell 3; have k4 : w4.cell? ⟨wr.heap.size, 4, none⟩ = some (.int .u64 r.src.d) := HE2.out.cell 4; have k5 : w4.cell? ⟨wr.heap.size, 5, none⟩ = some (.int .u64 r.tgt.a) := HE2.out.cell 5; have k6 : w4.cell? ⟨wr.heap.size, 6, none⟩ = some (.int .u64 r.tgt.b) := HE2.out.cell 6; have k7 : w4.cell? ⟨wr.heap.size, 7, none⟩ = some (.int .u64 r.tgt.c) := HE2.out.cell 7; have k8 : w4.cell? ⟨wr.heap.size, 8, none⟩ = some (.int .u64 r.tgt.d) := HE2.out.cell 8; have k9 : w4.cell? ⟨wr.heap.size, 9, none⟩ = some (.bool r.self) := HE2.out.cell 9; have k10 : w4.cell? ⟨wr.heap.size, 10, none⟩ = some (.int .i64 r.cls) := HE2.out.cell 10; have k11 : w4.cell? ⟨wr.heap.size, 11, none⟩ = some (.int .u32 r.perms) := HE2.out.cell 11; have k12 : w4.cell? ⟨wr.heap.size, 12, none⟩ = some (.int .i64 r.cond) := HE2.out.cell 12; have q2 : w4.cell? ⟨wz.heap.size, 2, none⟩ = some (.int .i64 x.cls) := HX4.out.cell 2; have q0 : w4.cell? ⟨wz.heap.size, 0, none⟩ = some (.int .i64 x.src) := HX4.out.cell 0; have q1 : w4.cell? ⟨wz.heap.size, 1, none⟩ = some (.int .i64 x.tgt) := HX4.out.cell 1) | (have hZ := HF; clear hZ; go_at_call 36; go_must (refine ((HF.out w4)).mono ?_; rintro e w5 ⟨rfl, hb5⟩; have HB5 := Lib.hid (HB4.out.trans (hb5.mono HB4.out.size)); have HE5 := Lib.hid (Whole.under hb5 HE2.out HE2.out.lt); have HX5 := Lib.hid (Whole.under hb5 HX4.out HX4.out.lt); clear hb5 HF HE2 HX4 HSE2 HB4 k0 k1 k2 k3 k4 k5 k6 k7 k8 k9 k10 k11 k12 q0 q1 q2 ; skip)))
                go_roundw
                case rel => exact ⟨j + 1, by omega, by go_num, by rw [never_no HRI.out HFB.out, ← HV.out], HI.out.trans (HB5.out.mono HI.out.size)⟩
                case measure => simp [intOf]; omega
            · have hk2 : (r.cls == x.cls) = false := by simp [hcs]
              have HFB := Lib.hid (show r.forb x = false by unfold ARule.forb; simp [hcs])
              clear h4 hcs hV
              go_wp2_with (first | (refine wpList_store_blk rfl 27 _ _ rfl wr.heap.size 0 (.agg #[.int .i64 r.kind, .int .u64 r.src.a, .int .u64 r.src.b, .int .u64 r.src.c, .int .u64 r.src.d, .int .u64 r.tgt.a, .int .u64 r.tgt.b, .int .u64 r.tgt.c, .int .u64 r.tgt.d, .bool r.self, .int .i64 r.cls, .int .u32 r.perms, .int .i64 r.cond]) rfl rfl 27 _ (Whole.new wr 27 _) (by simp [Value.cells]) size27 rfl ?_; intro w4 SE2 WE2; rw [splice_all _ _ (by rfl)] at WE2; have HSE2 := Lib.hid SE2; have HE2 := Lib.hid (show Whole w4 wr.heap.size 27 #[.int .i64 r.kind, .int .u64 r.src.a, .int .u64 r.src.b, .int .u64 r.src.c, .int .u64 r.src.d, .int .u64 r.tgt.a, .int .u64 r.tgt.b, .int .u64 r.tgt.c, .int .u64 r.tgt.d, .bool r.self, .int .i64 r.cls, .int .u32 r.perms, .int .i64 r.cond] from WE2); clear SE2 WE2 e0 e1 e2 e3 e4 e5 e6 e7 e8 e9 e10 e11 e12; have HX4 := Lib.hid (HSE2.out.whole (HXq.out.alloc _) (by have := HXq.out.lt; omega)); have HB4 := Lib.hid ((((Below.refl _ wr).alloc (Nat.le_refl _) _).trans (HSE2.out.below (Nat.le_refl _)))); have k0 : w4.cell? ⟨wr.heap.size, 0, none⟩ = some (.int .i64 r.kind) := HE2.out.cell 0; have k10 : w4.cell? ⟨wr.heap.size, 10, none⟩ = some (.int .i64 r.cls) := HE2.out.cell 10; have q2 : w4.cell? ⟨wz.heap.size, 2, none⟩ = some (.int .i64 x.cls) := HX4.out.cell 2))
              go_roundw
              case rel => exact ⟨j + 1, by omega, by go_num, by rw [never_no HRI.out HFB.out, ← HV.out], HI.out.trans (HB4.out.mono HI.out.size)⟩
              case measure => simp [intOf]; omega
          · have hk : (r.kind == 4) = false := by simp [h4]
            have HFB := Lib.hid (show r.forb x = false by unfold ARule.forb; simp [h4])
            clear h4 hV
            go_wp2_with (first | (refine wpList_store_blk rfl 27 _ _ rfl wr.heap.size 0 (.agg #[.int .i64 r.kind, .int .u64 r.src.a, .int .u64 r.src.b, .int .u64 r.src.c, .int .u64 r.src.d, .int .u64 r.tgt.a, .int .u64 r.tgt.b, .int .u64 r.tgt.c, .int .u64 r.tgt.d, .bool r.self, .int .i64 r.cls, .int .u32 r.perms, .int .i64 r.cond]) rfl rfl 27 _ (Whole.new wr 27 _) (by simp [Value.cells]) size27 rfl ?_; intro w4 SE2 WE2; rw [splice_all _ _ (by rfl)] at WE2; have HSE2 := Lib.hid SE2; have HE2 := Lib.hid (show Whole w4 wr.heap.size 27 #[.int .i64 r.kind, .int .u64 r.src.a, .int .u64 r.src.b, .int .u64 r.src.c, .int .u64 r.src.d, .int .u64 r.tgt.a, .int .u64 r.tgt.b, .int .u64 r.tgt.c, .int .u64 r.tgt.d, .bool r.self, .int .i64 r.cls, .int .u32 r.perms, .int .i64 r.cond] from WE2); clear SE2 WE2 e0 e1 e2 e3 e4 e5 e6 e7 e8 e9 e10 e11 e12; have HX4 := Lib.hid (HSE2.out.whole (HXq.out.alloc _) (by have := HXq.out.lt; omega)); have HB4 := Lib.hid ((((Below.refl _ wr).alloc (Nat.le_refl _) _).trans (HSE2.out.below (Nat.le_refl _)))); have k0 : w4.cell? ⟨wr.heap.size, 0, none⟩ = some (.int .i64 r.kind) := HE2.out.cell 0))
            go_roundw
            case rel => exact ⟨j + 1, by omega, by go_num, by rw [never_no HRI.out HFB.out, ← HV.out], HI.out.trans (HB4.out.mono HI.out.size)⟩
            case measure => simp [intOf]; omega
        · obtain rfl : j = n := by omega
          have HVT := Lib.hid (show V = neverBits l x by rw [hV, HL.out, List.take_length])
          have HXr := HXq
          clear hV
          by_cases hz : V = 0
          · have hn0 : (V != 0) = false := by simp [hz]
            have HZ := Lib.hid hz
            clear hz
            go_wp2_with fail
            go_roundw
            case rel => exact ⟨i + 1, by omega, by go_num, by rw [neverL_next HXI.out, if_pos (by rw [← HVT.out]; exact HZ.out), List.append_nil]; exact own_keep HI.out (own_keep HBz.out HR.out.1 (Nat.le_refl _)) (Nat.le_refl _), HB3.out.trans (HI.out.mono HB3.out.size)⟩
            case measure => simp [intOf]; omega
          · have hn0 : (V != 0) = true := by simp [hz]
            have HZ := Lib.hid hz
            clear hz
            have HOWN := Lib.hid (own_keep HI.out (own_keep HBz.out HR.out.1 (Nat.le_refl _)) (Nat.le_refl _))
            have HSM := Lib.hid (show (neverL l (E.take i)).length ≤ 65536000 from Nat.le_trans (neverL_len _ _) (Nat.le_trans (List.length_take_le' _ _) (by rw [← HEM.out]; exact hl1)))
            have HBr := Lib.hid (HB3.out.trans (HI.out.mono HB3.out.size))
            have q0 : wr.cell? ⟨wz.heap.size, 0, none⟩ = some (.int .i64 x.src) := HXr.out.cell 0
            have q1 : wr.cell? ⟨wz.heap.size, 1, none⟩ = some (.int .i64 x.tgt) := HXr.out.cell 1
            have q2 : wr.cell? ⟨wz.heap.size, 2, none⟩ = some (.int .i64 x.cls) := HXr.out.cell 2
            have q3 : wr.cell? ⟨wz.heap.size, 3, none⟩ = some (.int .i64 x.cond) := HXr.out.cell 3
            go_wp2_with (at_builtin; go_must (refine wpList_append_own _ rfl _ _ 52 rfl w1.heap.size 61 i0 z 7 48 Tryd.underlying52 hi hz0 hz1 hz2 hzs (by decide) _ _ _ rfl (own_alloc HOWN.out _) ⟨wr.heap.size, 0, none⟩ 1 1 [.int .i64 x.src, .int .i64 x.tgt, .int .i64 x.cls, .int .i64 x.cond, .int .u32 V, .int .u32 0, .int .u32 0] rfl rfl (row_new _ _ _) ?c2 ?c3 ?c4 ?c5 ?_))
            case c2 => simp [Value.oneCell']
            case c3 => have := HSM.out; unfold maxLen; omega
            case c4 => have := HSM.out; omega
            case c5 => have := HBr.out.size; simp; omega
            intro v' w9 hown' hgrow hnil
            have HB9 := Lib.hid ((HBr.out.alloc HBr.out.size _).grown hgrow (by have := HBr.out.size; simp; omega) (fun q hq => (HOWN.out.lt q hq).1))
            have HOWN9 := Lib.hid hown'
            clear hgrow hnil hown' q0 q1 q2 q3
            go_wp2
            go_roundw
            case rel => exact ⟨i + 1, by omega, by go_num, by
              rw [neverL_next HXI.out, if_neg (by rw [← HVT.out]; exact HZ.out), List.length_append, List.flatMap_append, ← HVT.out]
              simpa [neverE, AEntry.cells] using HOWN9.out, HB9.out⟩
            case measure => simp [intOf]; omega
    · obtain rfl : i = m := by omega
      go_wp2_with fail
      go_ret
      refine ⟨_, E, rfl, HE.out.1, ?_, HB1.out.trans (HR.out.2.mono HB1.out.size)⟩
      have h := SliceAt.of_own HR.out.1 (ecells_one _)
      rwa [HEM.out, List.take_length] at h
end Go.Proofs.YtmkfabdkadocdaaDoor
