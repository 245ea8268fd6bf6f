import Derived.Test.YtmkfabdkadocdaaDoorO3
import Derived.Test.YtmkfabdkadocdaaDoorO2
/-
  expand.Merge.
-/
namespace Go.Proofs.YtmkfabdkadocdaaDoor
open Go Go.WideMaps Go.RowKit Go.Sort

def kvs (l : List AEntry) : List (Key4 × AVec) := l.map fun e => (e.key, e.vecs)
def accE (l : List AEntry) : Key4 → AVec := accum (kvs l)
theorem accE_take {l : List AEntry} {i : Nat} {y : AEntry} (h : l[i]? = some y) : accE (l.take (i + 1)) = fun x => if x = y.key then (accE (l.take i) y.key).or y.vecs else accE (l.take i) x := by
  unfold accE kvs
  rw [take_snoc h, List.map_append, List.map_singleton, accum_snoc]
  rfl
/-- i entries have been put into the map. -/
structure Merging (w wr : World) (mb i : Nat) (l : List AEntry) : Prop where
  map : MapK wr mb i (accE (l.take i))
  blw : Below w.heap.size w wr
  new : w.heap.size ≤ mb
theorem Merging.start (w w' : World) (l : List AEntry) (mb : Nat) (hm : MapK w' mb 0 (fun _ => AVec.zero)) (hb : Below w.heap.size w w') (h : w.heap.size ≤ mb) : Merging w w' mb 0 l := ⟨by simpa [accE, kvs, accum_nil] using hm, hb, h⟩
theorem merging_step {w wr w2 wx w7 : World} {mb i : Nat} {l : List AEntry} {y : AEntry} (h : Merging w wr mb i l) (hy : l[i]? = some y) (hb : Below wr.heap.size wr w2) (hb2 : Below w2.heap.size w2 wx)
    (hm : MapK w7 mb (i + 1) (fun x => if x = y.key then (accE (l.take i) y.key).or y.vecs else accE (l.take i) x)) (hg : wx.grownBy w7 (some mb)) (hs : w7.heap.size = wx.heap.size) : Merging w w7 mb (i + 1) l := by
  refine ⟨by rw [accE_take hy]; exact hm, ?_, h.new⟩
  have h1 : Below w.heap.size w wx := (h.blw.trans (hb.mono h.blw.size)).trans (hb2.mono (Nat.le_trans h.blw.size hb.size))
  exact h1.trans (Below.of_iter hg h.new h1.size hs)
/-- The entries of a map, in their order. -/
theorem entries_canon (w : World) (mb n : Nat) (f : Key4 → AVec) (h : MapK w mb n f) (hn : n ≤ 100000000) :
    Calls Tryd.prog 35 #[.map (some mb)] w fun e w' => ∃ v l, e = .returned v ∧ Canon f l ∧ (∀ x ∈ l, x.Ok) ∧ l.length ≤ n ∧ SliceAt w' v 7 l.length (l.flatMap AEntry.cells) ∧ Below w.heap.size w w' := by
  obtain ⟨D, h1, h2, h3, h4⟩ := h.ex
  refine (entries_any w mb D h1 (by omega)).mono ?_
  rintro e w' ⟨v, l', rfl, hp, hs, hsl, hb⟩
  refine ⟨v, l', rfl, canon_sorted (MapK.nodup h1) (fun p hp => (h2 p hp).1) h3 hp hs, fun x hx => ?_, ?_, hsl, hb⟩
  · have hx := hp.mem_iff.1 hx
    unfold outL at hx
    obtain ⟨p, hp, rfl⟩ := List.mem_map.1 hx
    have := h2 p (List.mem_filter.1 hp).1
    exact ⟨this.2.1, this.2.2⟩
  · have := hp.length_eq
    have := outL_len D
    omega
theorem grown_below {w w' : World} {B : Nat} (hg : w.grownBy w' none) (hB : B ≤ w.heap.size) : Below B w w' := ⟨hg.os, hg.tape, hg.output, hg.size, fun k hk => hg.block k (by omega) (fun e => by cases e)⟩

set_option maxRecDepth 100000 in
set_option maxHeartbeats 8000000 in
theorem merge_any (w : World) (v : Value) (l : List AEntry) (h : SliceAt w v 7 l.length (l.flatMap AEntry.cells)) (hok : ∀ x ∈ l, x.Ok) (hlen : l.length ≤ 100000000) :
    Calls Tryd.prog 19 #[v] w fun e w' => ∃ v' l', e = .returned v' ∧ Canon (accE l) l' ∧ (∀ x ∈ l', x.Ok) ∧ l'.length ≤ l.length ∧ SliceAt w' v' 7 l'.length (l'.flatMap AEntry.cells) ∧ Below w.heap.size w w' := by
  obtain ⟨n, hn⟩ : ∃ n, n = l.length := ⟨_, rfl⟩
  obtain ⟨a, c, rfl, hc, hmx, hcell⟩ := h.form (by decide)
  have HL := Lib.hid hn
  have HC := Lib.hid (And.intro hcell hc)
  have HSL := Lib.hid h
  have HOK := Lib.hid hok
  rw [← hn] at hlen hmx
  simp only [← hn]
  clear hn hcell hc h hok
  have HR0 := Lib.hid (Merging.start w (w.alloc (.map #[] 0)) l w.heap.size (MapK.made w) ((Below.refl _ w).alloc (Nat.le_refl _) _) (Nat.le_refl _))
  have q1 : (Instr.makeMap 71 none).run Tryd.prog w = .ok (.map (some w.heap.size)) (w.alloc (.map #[] 0)) := rfl
  go_enter Tryd.func19, Tryd.ntmps19
  go_wp2
  obtain ⟨mb, hmb⟩ : ∃ mb, mb = w.heap.size := ⟨_, rfl⟩
  obtain ⟨wo, hwo⟩ : ∃ wo, wo = w.alloc (.map #[] 0) := ⟨_, rfl⟩
  rw [← hmb, ← hwo] at HR0
  rw [← hmb, ← hwo]
  clear hwo hmb
  go_loopw [10] (fun i wr => ∃ k : Nat, k ≤ n ∧ i = .int .i64 k ∧ Merging w wr mb k l) (fun i _ => n - (intOf i).toNat)
  case atStart => exact ⟨0, Nat.zero_le _, rfl, HR0.out⟩
  case round =>
    clear HR0 q1
    obtain ⟨i, hi, rfl, hR⟩ := hrel
    have HR := Lib.hid hR
    clear hR
    by_cases hlt : i < n
    · have hln : i < l.length := by rw [← HL.out]; exact hlt
      obtain ⟨y, hy⟩ : ∃ y, l[i]? = some y := ⟨_, List.getElem?_eq_getElem hln⟩
      have HY := Lib.hid hy
      have HYK := Lib.hid (HOK.out y (List.mem_of_getElem? hy))
      obtain ⟨b, off, rfl, hcl⟩ := HC.out.1 i hln
      have e0 : wr.cell? ⟨b, off + i * 7, none⟩ = some (.int .i64 y.src) := cell_later HR.out.blw (hcl 0 _ (by rw [flat_at entry_len hy 0 (by decide)]; rfl))
      have e1 : wr.cell? ⟨b, off + i * 7 + 1, none⟩ = some (.int .i64 y.tgt) := cell_later HR.out.blw (hcl 1 _ (by rw [flat_at entry_len hy 1 (by decide)]; rfl))
      have e2 : wr.cell? ⟨b, off + i * 7 + 2, none⟩ = some (.int .i64 y.cls) := cell_later HR.out.blw (hcl 2 _ (by rw [flat_at entry_len hy 2 (by decide)]; rfl))
      have e3 : wr.cell? ⟨b, off + i * 7 + 3, none⟩ = some (.int .i64 y.cond) := cell_later HR.out.blw (hcl 3 _ (by rw [flat_at entry_len hy 3 (by decide)]; rfl))
      have e4 : wr.cell? ⟨b, off + i * 7 + 4, none⟩ = some (.int .u32 y.allow) := cell_later HR.out.blw (hcl 4 _ (by rw [flat_at entry_len hy 4 (by decide)]; rfl))
      have e5 : wr.cell? ⟨b, off + i * 7 + 5, none⟩ = some (.int .u32 y.audit) := cell_later HR.out.blw (hcl 5 _ (by rw [flat_at entry_len hy 5 (by decide)]; rfl))
      have e6 : wr.cell? ⟨b, off + i * 7 + 6, none⟩ = some (.int .u32 y.dont) := cell_later HR.out.blw (hcl 6 _ (by rw [flat_at entry_len hy 6 (by decide)]; rfl))
      clear hy hcl hln
      obtain ⟨f, hf⟩ : ∃ f, f = accE (l.take i) := ⟨_, rfl⟩
      have HF := Lib.hid hf
      clear hf
      go_upto_region 6 with (first | (refine wpList_store_blk rfl 61 _ _ rfl wr.heap.size 0 (.agg #[.int .i64 y.src, .int .i64 y.tgt, .int .i64 y.cls, .int .i64 y.cond, .int .u32 y.allow, .int .u32 y.audit, .int .u32 y.dont]) rfl rfl 61 _ (Whole.new wr 61 _) (by simp [Value.cells]) size61 rfl ?_; intro w1 S1 W1; rw [splice_all _ _ (by rfl)] at W1; have HS1 := Lib.hid S1; have HE1 := Lib.hid (show Whole w1 wr.heap.size 61 #[.int .i64 y.src, .int .i64 y.tgt, .int .i64 y.cls, .int .i64 y.cond, .int .u32 y.allow, .int .u32 y.audit, .int .u32 y.dont] from W1); clear S1 W1 e0 e1 e2 e3 e4 e5 e6; have a0 : w1.cell? ⟨wr.heap.size, 0, none⟩ = some (.int .i64 y.src) := HE1.out.cell 0; have a1 : w1.cell? ⟨wr.heap.size, 1, none⟩ = some (.int .i64 y.tgt) := HE1.out.cell 1; have a2 : w1.cell? ⟨wr.heap.size, 2, none⟩ = some (.int .i64 y.cls) := HE1.out.cell 2; have a3 : w1.cell? ⟨wr.heap.size, 3, none⟩ = some (.int .i64 y.cond) := HE1.out.cell 3) | (refine wpList_store_blk rfl 76 _ _ rfl w1.heap.size 0 (.agg #[.int .i64 y.src, .int .i64 y.tgt, .int .i64 y.cls, .int .i64 y.cond]) rfl rfl 76 _ (Whole.new w1 76 _) (by simp [Value.cells]) size76 rfl ?_; intro w2 S2 W2; rw [splice_all _ _ (by rfl)] at W2; have HS2 := Lib.hid S2; have HK2 := Lib.hid (show Whole w2 w1.heap.size 76 #[.int .i64 y.src, .int .i64 y.tgt, .int .i64 y.cls, .int .i64 y.cond] from W2); clear S2 W2 a0 a1 a2 a3))
      have HB2 := Lib.hid (show RowKit.Below wr.heap.size wr w2 from ((((Below.refl _ wr).alloc (Nat.le_refl _) _).trans (HS1.out.below (Nat.le_refl _))).alloc (by rw [HS1.out.size]; simp) _).trans (HS2.out.below (by rw [HS1.out.size]; simp)))
      have HE2 := Lib.hid (HS2.out.whole (HE1.out.alloc _) (by rw [HS1.out.size]; simp))
      have HM2 := Lib.hid (show MapK w2 mb i f by rw [HF.out]; exact HR.out.map.kept (HB2.out.block _ HR.out.map.lt))
      clear HE1 HS1 HS2
      refine wp_region_last (fun w w' => Below w.heap.size w w') [some 23, some 24, some 25, some 26, some 27, some 28, some 29, some 30, some 31, some 32, some 33, some 34, some 35] [isV (.map (some mb)), isV (.agg #[.int .i64 y.src, .int .i64 y.tgt, .int .i64 y.cls, .int .i64 y.cond]), isV (.map (some mb)), isV (.agg #[.int .i64 y.src, .int .i64 y.tgt, .int .i64 y.cls, .int .i64 y.cond]), isV (.agg #[.int .u32 (f y.key).allow, .int .u32 (f y.key).audit, .int .u32 (f y.key).dont]), isV (.pointer (some ⟨wr.heap.size, 4, none⟩)), isV (.int .u32 y.allow), isV (.pointer (some ⟨wr.heap.size, 5, none⟩)), isV (.int .u32 y.audit), isV (.pointer (some ⟨wr.heap.size, 6, none⟩)), isV (.int .u32 y.dont), isV (.agg #[.int .u32 y.allow, .int .u32 y.audit, .int .u32 y.dont]), isV (.agg #[.int .u32 ((f y.key).or y.vecs).allow, .int .u32 ((f y.key).or y.vecs).audit, .int .u32 ((f y.key).or y.vecs).dont])] (fun _ w' => RowKit.Below w2.heap.size w2 w') 13 (by kernel_rfl) (by kernel_rfl) (by kernel_rfl) rfl (by decide) rfl rfl ((Below.refl _ _).drew) ⟨lasts_is _, lasts_is _, lasts_is _, lasts_is _, lasts_is _, lasts_is _, lasts_is _, lasts_is _, lasts_is _, lasts_is _, lasts_is _, lasts_is _, lasts_is _, trivial⟩ ⟨(fun _ => lastsR_is _), (fun _ => lastsR_is _), (fun _ => lastsR_is _), (fun _ => lastsR_is _), (fun _ => lastsR_is _), (fun _ => lastsR_is _), (fun _ => lastsR_is _), (fun _ => lastsR_is _), (fun _ => lastsR_is _), (fun _ => lastsR_is _), (fun _ => lastsR_is _), (fun _ => lastsR_is _), (fun _ => lastsR_is _), trivial⟩ ⟨?_, ?_, ?_, ?_, ?_, ?_, ?_, ?_, ?_, ?_, ?_, ?_, ?_, ?_⟩
      · intro L a wx Q' hL hi H F hK
        try dsimp only at hi
        have h3 : a.tmps[3]? = some (.map (some mb)) := F 3 rfl
        have HI := Lib.hid hi
        clear H F hi hL
        go_wp2_with fail
        exact hK _ _ (Below.refl _ _) HI.out rfl
      · intro L a wx Q' hL hi H F hK
        try dsimp only at hi
        have h6 : a.tmps[6]? = some (.pointer (some ⟨w1.heap.size, 0, none⟩)) := F 6 rfl
        have HI := Lib.hid hi
        clear H F hi hL
        have kq0 : wx.cell? ⟨w1.heap.size, 0, none⟩ = some (.int .i64 y.src) := (Whole.under HI.out HK2.out (Whole.lt HK2.out)).cell 0
        have kq1 : wx.cell? ⟨w1.heap.size, 1, none⟩ = some (.int .i64 y.tgt) := (Whole.under HI.out HK2.out (Whole.lt HK2.out)).cell 1
        have kq2 : wx.cell? ⟨w1.heap.size, 2, none⟩ = some (.int .i64 y.cls) := (Whole.under HI.out HK2.out (Whole.lt HK2.out)).cell 2
        have kq3 : wx.cell? ⟨w1.heap.size, 3, none⟩ = some (.int .i64 y.cond) := (Whole.under HI.out HK2.out (Whole.lt HK2.out)).cell 3
        go_wp2_with fail
        exact hK _ _ (Below.refl _ _) HI.out rfl
      · intro L a wx Q' hL hi H F hK
        try dsimp only at hi
        have h3 : a.tmps[3]? = some (.map (some mb)) := F 3 rfl
        have HI := Lib.hid hi
        clear H F hi hL
        go_wp2_with fail
        exact hK _ _ (Below.refl _ _) HI.out rfl
      · intro L a wx Q' hL hi H F hK
        try dsimp only at hi
        have h6 : a.tmps[6]? = some (.pointer (some ⟨w1.heap.size, 0, none⟩)) := F 6 rfl
        have HI := Lib.hid hi
        clear H F hi hL
        have kq0 : wx.cell? ⟨w1.heap.size, 0, none⟩ = some (.int .i64 y.src) := (Whole.under HI.out HK2.out (Whole.lt HK2.out)).cell 0
        have kq1 : wx.cell? ⟨w1.heap.size, 1, none⟩ = some (.int .i64 y.tgt) := (Whole.under HI.out HK2.out (Whole.lt HK2.out)).cell 1
        have kq2 : wx.cell? ⟨w1.heap.size, 2, none⟩ = some (.int .i64 y.cls) := (Whole.under HI.out HK2.out (Whole.lt HK2.out)).cell 2
        have kq3 : wx.cell? ⟨w1.heap.size, 3, none⟩ = some (.int .i64 y.cond) := (Whole.under HI.out HK2.out (Whole.lt HK2.out)).cell 3
        go_wp2_with fail
        exact hK _ _ (Below.refl _ _) HI.out rfl
      · intro L a wx Q' hL hi H F hK
        try dsimp only at hi
        obtain ⟨_, h25, rfl⟩ := H 2 ⟨.data, by simp, rfl⟩ _ rfl
        replace h25 := h25 _ rfl
        obtain ⟨_, h26, rfl⟩ := H 3 ⟨.data, by simp, rfl⟩ _ rfl
        replace h26 := h26 _ rfl
        have HI := Lib.hid hi
        clear H F hi hL
        have q : (Instr.lookup 71 (.map (some mb)) (.agg #[.int .i64 y.src, .int .i64 y.tgt, .int .i64 y.cls, .int .i64 y.cond]) false).run Tryd.prog wx = .ok (.agg #[.int .u32 (f y.key).allow, .int .u32 (f y.key).audit, .int .u32 (f y.key).dont]) wx := (MapK.kept HM2.out (HI.out.block _ HM2.out.lt)).look HYK.out.1
        go_wp2_with fail
        exact hK _ _ (Below.refl _ _) HI.out rfl
      · intro L a wx Q' hL hi H F hK
        try dsimp only at hi
        have h5 : a.tmps[5]? = some (.pointer (some ⟨wr.heap.size, 0, none⟩)) := F 5 rfl
        have HI := Lib.hid hi
        clear H F hi hL
        go_wp2_with fail
        exact hK _ _ (Below.refl _ _) HI.out rfl
      · intro L a wx Q' hL hi H F hK
        try dsimp only at hi
        obtain ⟨_, h28, rfl⟩ := H 5 ⟨.data, by simp, rfl⟩ _ rfl
        replace h28 := h28 _ rfl
        have HI := Lib.hid hi
        clear H F hi hL
        have kq0 : wx.cell? ⟨wr.heap.size, 4, none⟩ = some (.int .u32 y.allow) := (Whole.under HI.out HE2.out (Whole.lt HE2.out)).cell 4
        go_wp2_with fail
        exact hK _ _ (Below.refl _ _) HI.out rfl
      · intro L a wx Q' hL hi H F hK
        try dsimp only at hi
        have h5 : a.tmps[5]? = some (.pointer (some ⟨wr.heap.size, 0, none⟩)) := F 5 rfl
        have HI := Lib.hid hi
        clear H F hi hL
        go_wp2_with fail
        exact hK _ _ (Below.refl _ _) HI.out rfl
      · intro L a wx Q' hL hi H F hK
        try dsimp only at hi
        obtain ⟨_, h30, rfl⟩ := H 7 ⟨.data, by simp, rfl⟩ _ rfl
        replace h30 := h30 _ rfl
        have HI := Lib.hid hi
        clear H F hi hL
        have kq0 : wx.cell? ⟨wr.heap.size, 5, none⟩ = some (.int .u32 y.audit) := (Whole.under HI.out HE2.out (Whole.lt HE2.out)).cell 5
        go_wp2_with fail
        exact hK _ _ (Below.refl _ _) HI.out rfl
      · intro L a wx Q' hL hi H F hK
        try dsimp only at hi
        have h5 : a.tmps[5]? = some (.pointer (some ⟨wr.heap.size, 0, none⟩)) := F 5 rfl
        have HI := Lib.hid hi
        clear H F hi hL
        go_wp2_with fail
        exact hK _ _ (Below.refl _ _) HI.out rfl
      · intro L a wx Q' hL hi H F hK
        try dsimp only at hi
        obtain ⟨_, h32, rfl⟩ := H 9 ⟨.data, by simp, rfl⟩ _ rfl
        replace h32 := h32 _ rfl
        have HI := Lib.hid hi
        clear H F hi hL
        have kq0 : wx.cell? ⟨wr.heap.size, 6, none⟩ = some (.int .u32 y.dont) := (Whole.under HI.out HE2.out (Whole.lt HE2.out)).cell 6
        go_wp2_with fail
        exact hK _ _ (Below.refl _ _) HI.out rfl
      · intro L a wx Q' hL hi H F hK
        try dsimp only at hi
        obtain ⟨_, h29, rfl⟩ := H 6 ⟨.data, by simp, rfl⟩ _ rfl
        replace h29 := h29 _ rfl
        obtain ⟨_, h31, rfl⟩ := H 8 ⟨.data, by simp, rfl⟩ _ rfl
        replace h31 := h31 _ rfl
        obtain ⟨_, h33, rfl⟩ := H 10 ⟨.data, by simp, rfl⟩ _ rfl
        replace h33 := h33 _ rfl
        have HI := Lib.hid hi
        clear H F hi hL
        go_wp2_with fail
        exact hK _ _ (Below.refl _ _) HI.out rfl
      · intro L a wx Q' hL hi H F hK
        try dsimp only at hi
        obtain ⟨_, h27, rfl⟩ := H 4 ⟨.data, by simp, rfl⟩ _ rfl
        replace h27 := h27 _ rfl
        obtain ⟨_, h34, rfl⟩ := H 11 ⟨.data, by simp, rfl⟩ _ rfl
        replace h34 := h34 _ rfl
        have HI := Lib.hid hi
        clear H F hi hL
        go_wp2_with (go_at_call 34; go_must (refine (vor_any wx (f y.key) y.vecs).mono ?_; rintro e w1 ⟨rfl, hb1⟩))
        exact hK _ _ hb1 (HI.out.trans (hb1.mono HI.out.size)) rfl
      · intro a wx hl L hi hL Q' hK
        try dsimp only at hi
        have HB := Lib.hid hi
        clear hi hL
        obtain ⟨_, rfl, _, rfl, _, rfl, _, rfl, _, rfl, _, rfl, _, rfl, _, rfl, _, rfl, _, rfl, _, rfl, _, rfl, _, rfl, rfl⟩ := hl
        simp only [List.setIfInBounds_toArray, List.set_cons_zero, List.set_cons_succ]
        go_wp2_with (refine wpList_put _ rfl (.tmp 23) (.tmp 24) (.tmp 35) 71 rfl (.map (some mb)) (.agg #[.int .i64 y.src, .int .i64 y.tgt, .int .i64 y.cls, .int .i64 y.cond]) (.agg #[.int .u32 ((f y.key).or y.vecs).allow, .int .u32 ((f y.key).or y.vecs).audit, .int .u32 ((f y.key).or y.vecs).dont]) rfl rfl rfl (fun w' => MapK w' mb (i + 1) (fun x => if x = y.key then ((f y.key).or y.vecs) else f x) ∧ wx.grownBy w' (some mb) ∧ w'.heap.size = wx.heap.size) ((MapK.kept HM2.out (HB.out.block _ HM2.out.lt)).put HYK.out.1 (AVec.or_ok _ _)) ?_; intro w7 hp; have HP := Lib.hid hp; clear hp)
        go_roundw
        case rel => exact ⟨i + 1, by omega, by go_num, merging_step HR.out HY.out HB2.out HB.out (by have hm := HP.out.1; rw [HF.out] at hm; exact hm) HP.out.2.1 HP.out.2.2⟩
        case measure => simp [intOf]; omega
    · obtain rfl : i = n := by omega
      have HC1 := Lib.hid (entries_canon wr mb i _ HR.out.map hlen)
      clear hlen hlt hi hmx
      go_wp2_with (go_at_call 35; go_must (refine HC1.out.mono ?_; rintro e w1 ⟨v1, l1, rfl, hq⟩; have HQ := Lib.hid hq; clear hq))
      go_ret
      obtain ⟨hc1, ho1, hl1, hs1, hb1⟩ := HQ.out
      refine ⟨_, l1, rfl, ?_, ho1, hl1, hs1, HR.out.blw.trans (hb1.mono HR.out.blw.size)⟩
      rwa [HL.out, List.take_length] at hc1
end Go.Proofs.YtmkfabdkadocdaaDoor
