import Derived.Test.YtcdhjcjdphnleaaX
namespace Go.Proofs.Ytcdhjcjdphnleaa
open Go Go.WideMaps Go.RowKit

theorem erase_last (ks : List Key) (k : Key) (h : (ks ++ [k]).Nodup) : (ks ++ [k]).erase k = ks := by
  have : k ∉ ks := fun hm => by
    have := List.nodup_append.1 h
    exact this.2.2 k hm k (by simp) rfl
  rw [List.erase_append_right _ this]
  simp
theorem ents_last (D : List (Key × Dec)) (p : Key × Dec) : (ents (D ++ [p])).Perm ((p.1.val, p.2.val) :: ents D) := by
  unfold ents
  rw [List.map_append]
  exact List.perm_append_comm

theorem evict_did {w x : World} {cb mb kb : Nat} {v u : Value} {k ko : Key} {d do' : Dec} {F : Nat → Prop} {s : St} {D0 : List (Key × Dec)} (hc : CacheAt w cb mb v F s) (hD : s.D = D0 ++ [(ko, do')]) (hno : ∀ p ∈ s.D, p.1 ≠ k) (hfull : (s.D.length : Int) = s.size)
    (h : Mid w cb mb kb v k d x #[.int .i64 s.size, .int .i64 s.seq, .map (some mb), u, .int .i64 s.h, .int .i64 s.m, .int .i64 (s.e + 1), .int .i64 s.r] u (k :: (D0.map Prod.fst).erase k) ((k.val, d.val) :: ents D0)) : Did w x cb F (s.evict.put k d) := by
  have he : s.evict.D = D0 := by show s.D.dropLast = _; rw [hD]; simp
  have hno' : ∀ p ∈ D0, p.1 ≠ k := fun p hp => hno p (by rw [hD]; exact List.mem_append_left _ hp)
  have hek : s.evict.keys = D0.map Prod.fst := by unfold St.keys; rw [he]
  refine Mid.did (s' := s.evict.put k d) (by rw [put_keys hc.ok.evict.nodup, hek]; exact h) hc ?_ (hc.ok.evict.putNew ?_) (fun e => by cases e)
  · show List.Perm _ (ents ((k, d) :: rest s.evict.D k))
    rw [he, rest_none hno']
    exact List.Perm.refl _
  · rw [he]
    rw [hD] at hfull
    show (D0.length : Int) < s.size
    simp at hfull
    omega

set_option maxRecDepth 100000 in
set_option maxHeartbeats 8000000 in
theorem insert_evict (w : World) (cb : Nat) (F : Nat → Prop) (s : St) (k : Key) (d : Dec) (h : Cache w cb F s) (hk : k.ok) (hst : s.seq ≤ d.seq) (D0 : List (Key × Dec)) (ko : Key) (do' : Dec) (hD : s.D = D0 ++ [(ko, do')]) (hno : ∀ p ∈ s.D, p.1 ≠ k) (hfull : (s.D.length : Int) = s.size) (hc0 : 0 ≤ s.e) (hc1 : s.e ≤ 1000000) :
    Calls Try.prog 22 #[.pointer (some ⟨cb, 0, none⟩), .int .i64 k.a, .int .i64 k.b, .int .i64 k.c, .agg #[.int .u32 d.allowed, .int .u32 d.auditAllow, .int .u32 d.auditDeny, .bool d.permissive, .int .i64 d.seq]] w fun e w' => e = .returned (.int .i64 0) ∧ Did w w' cb F (s.evict.put k d) := by
  have HH := Lib.hid hno
  clear hno
  have HFU := Lib.hid hfull
  have HD := Lib.hid hD
  clear hD hfull
  have HKS := Lib.hid (show s.keys = D0.map Prod.fst ++ [ko] by unfold St.keys; rw [HD.out, List.map_append]; rfl)
  have HK := Lib.hid hk
  have hst' : decide (d.seq < s.seq) = false := by simpa using hst
  clear hk hst
  obtain ⟨mb, v, h⟩ := h
  have hlo := h.ok.lo
  have HC := Lib.hid h
  have HW := Lib.hid (show Whole w cb 62 #[.int .i64 s.size, .int .i64 s.seq, .map (some mb), v, .int .i64 s.h, .int .i64 s.m, .int .i64 s.e, .int .i64 s.r] from h.blk)
  obtain ⟨wo, hwo⟩ : ∃ wo, wo = w.alloc (.cells #[.int .u32 d.allowed, .int .u32 d.auditAllow, .int .u32 d.auditDeny, .bool d.permissive, .int .i64 d.seq] 46) := ⟨_, rfl⟩
  have HWO := Lib.hid (show Whole wo cb 62 #[.int .i64 s.size, .int .i64 s.seq, .map (some mb), v, .int .i64 s.h, .int .i64 s.m, .int .i64 s.e, .int .i64 s.r] by rw [hwo]; exact HW.out.alloc _)
  have HDO := Lib.hid (show Whole wo w.heap.size 46 #[.int .u32 d.allowed, .int .u32 d.auditAllow, .int .u32 d.auditDeny, .bool d.permissive, .int .i64 d.seq] by rw [hwo]; exact Whole.new w 46 _)
  have HBO := Lib.hid (show Below w.heap.size w wo by rw [hwo]; exact (Below.refl _ w).alloc (Nat.le_refl _) _)
  clear h
  go_enter Try.func22, Try.ntmps22
  go_wp2_with (go_at_call 33; go_must (refine (made_yes _ cb s.size _ _ _ _ _ _ _ (HW.out.alloc _) (by omega)).mono ?_; rintro e w' ⟨rfl, rfl⟩))
  rw [← hwo]
  clear hwo
  refine wp_region_last (fun w w' => Below w.heap.size w w') [some 20, some 21, some 22, some 23, some 24, some 25, some 26] [isV (.pointer (some ⟨w.heap.size, 4, none⟩)), isV (.int .i64 d.seq), isV (.pointer (some ⟨cb, 0, none⟩)), isV (.pointer (some ⟨cb, 0, none⟩)), isV (.pointer (some ⟨cb, 1, none⟩)), isV (.int .i64 s.seq), isV (.bool false)] (fun _ w' => Below wo.heap.size wo w') 7 (by kernel_rfl) (by kernel_rfl) (by kernel_rfl) rfl (by decide) rfl rfl ((Below.refl _ _).drew) ⟨lasts_is _, lasts_is _, lasts_is _, lasts_is _, lasts_is _, lasts_is _, lasts_is _, trivial⟩ ⟨(fun _ => lastsR_is _), (fun _ => lastsR_is _), (fun _ => lastsR_is _), (fun _ => lastsR_is _), (fun _ => lastsR_is _), (fun _ => lastsR_is _), (fun _ => lastsR_is _), trivial⟩ ⟨?_, ?_, ?_, ?_, ?_, ?_, ?_, ?_⟩
  · intro L a wx Q' hL hi H F hK
    try dsimp only at hi
    have h9 : a.tmps[9]? = some (.pointer (some ⟨w.heap.size, 0, none⟩)) := F 9 rfl
    have HI := Lib.hid hi
    clear H F hi hL
    go_wp2_with fail
    exact hK _ _ (Below.refl _ _) HI.out rfl
  · intro L a wx Q' hL hi H F hK
    try dsimp only at hi
    obtain ⟨_, h20, rfl⟩ := H 0 ⟨.data, by simp, rfl⟩ _ rfl
    replace h20 := h20 _ rfl
    have HI := Lib.hid hi
    clear H F hi hL
    have kq0 : wx.cell? ⟨w.heap.size, 4, none⟩ = some (.int .i64 d.seq) := (Whole.under HI.out HDO.out (Whole.lt HDO.out)).cell 4
    go_wp2_with fail
    exact hK _ _ (Below.refl _ _) HI.out rfl
  · intro L a wx Q' hL hi H F hK
    try dsimp only at hi
    have h0 : a.tmps[0]? = some (.pointer (some ⟨cb, 0, none⟩)) := F 0 rfl
    have HI := Lib.hid hi
    clear H F hi hL
    go_wp2_with fail
    exact hK _ _ (Below.refl _ _) HI.out rfl
  · intro L a wx Q' hL hi H F hK
    try dsimp only at hi
    obtain ⟨_, h22, rfl⟩ := H 2 ⟨.data, by simp, rfl⟩ _ rfl
    replace h22 := h22 _ rfl
    have HI := Lib.hid hi
    clear H F hi hL
    go_wp2_with fail
    exact hK _ _ (Below.refl _ _) HI.out rfl
  · intro L a wx Q' hL hi H F hK
    try dsimp only at hi
    obtain ⟨_, h23, rfl⟩ := H 3 ⟨.data, by simp, rfl⟩ _ rfl
    replace h23 := h23 _ rfl
    have HI := Lib.hid hi
    clear H F hi hL
    go_wp2_with fail
    exact hK _ _ (Below.refl _ _) HI.out rfl
  · intro L a wx Q' hL hi H F hK
    try dsimp only at hi
    obtain ⟨_, h24, rfl⟩ := H 4 ⟨.data, by simp, rfl⟩ _ rfl
    replace h24 := h24 _ rfl
    have HI := Lib.hid hi
    clear H F hi hL
    have kq0 : wx.cell? ⟨cb, 1, none⟩ = some (.int .i64 s.seq) := (Whole.under HI.out HWO.out (Whole.lt HWO.out)).cell 1
    go_wp2_with fail
    exact hK _ _ (Below.refl _ _) HI.out rfl
  · intro L a wx Q' hL hi H F hK
    try dsimp only at hi
    obtain ⟨_, h21, rfl⟩ := H 1 ⟨.data, by simp, rfl⟩ _ rfl
    replace h21 := h21 _ rfl
    obtain ⟨_, h25, rfl⟩ := H 5 ⟨.data, by simp, rfl⟩ _ rfl
    replace h25 := h25 _ rfl
    have HI := Lib.hid hi
    clear H F hi hL
    go_wp2_with fail
    exact hK _ _ (Below.refl _ _) HI.out rfl
  · intro a wx hl L hi hL Q' hK
    try dsimp only at hi
    have HB := Lib.hid hi
    clear hi hL
    obtain ⟨_, rfl, _, rfl, _, rfl, _, rfl, _, rfl, _, rfl, _, rfl, rfl⟩ := hl
    simp only [List.setIfInBounds_toArray, List.set_cons_zero, List.set_cons_succ]
    skip
    have HXO := Lib.hid HB.out.size
    go_wp2_with (refine wpList_store_blk rfl 41 _ _ rfl wx.heap.size 0 (.agg #[.int .i64 k.a, .int .i64 k.b, .int .i64 k.c]) rfl rfl 41 _ (Whole.new wx 41 _) (by simp [Value.cells]) sz41 rfl ?_; intro w1 S1 W1; have HS1 := Lib.hid S1; have HKB := Lib.hid (show Whole w1 wx.heap.size 41 #[.int .i64 k.a, .int .i64 k.b, .int .i64 k.c] from W1); clear S1 W1)
    have HX1 := Lib.hid (show Below wx.heap.size wx w1 from ((Below.refl _ wx).alloc (Nat.le_refl _) _).trans (HS1.out.below (Nat.le_refl _)))
    have HO1 := Lib.hid (show Below wo.heap.size wo w1 from HB.out.trans (HX1.out.mono HB.out.size))
    have HW1 := Lib.hid (show Below w.heap.size w w1 from HBO.out.trans (HO1.out.mono HBO.out.size))
    have HC0 := Lib.hid (HC.out.under HW1.out)
    have HC1 := Lib.hid (show Whole w1 cb 62 #[.int .i64 s.size, .int .i64 s.seq, .map (some mb), v, .int .i64 s.h, .int .i64 s.m, .int .i64 s.e, .int .i64 s.r] from HC0.out.blk)
    have HDN := Lib.hid (Whole.under HO1.out HDO.out (Whole.lt HDO.out))
    clear HB HWO HDO
    refine wp_region_last (fun _ w' => ∃ cs, Whole w' w1.heap.size 46 cs ∧ cs.size = 5) [some 32, some 33, some 34, some 35, some 36, some 37, some 31, some 38, some 39, some 12, none] [isV (.pointer (some ⟨cb, 0, none⟩)), isV (.pointer (some ⟨cb, 0, none⟩)), isV (.pointer (some ⟨cb, 2, none⟩)), isV (.map (some mb)), isV (.agg #[.int .i64 k.a, .int .i64 k.b, .int .i64 k.c]), isV (.tuple #[.agg #[.int .u32 0, .int .u32 0, .int .u32 0, .bool false, .int .i64 0], .bool false]), isV (.tuple #[.agg #[.int .u32 0, .int .u32 0, .int .u32 0, .bool false, .int .i64 0], .bool false]), isV (.agg #[.int .u32 0, .int .u32 0, .int .u32 0, .bool false, .int .i64 0]), isV (.bool false), fun u w' => u = .pointer (some ⟨w1.heap.size, 0, none⟩) ∧ ∃ cs, Whole w' w1.heap.size 46 cs ∧ cs.size = 5, fun _ w' => Whole w' w1.heap.size 46 #[.int .u32 0, .int .u32 0, .int .u32 0, .bool false, .int .i64 0]] (fun L w' => Below w1.heap.size w1 w' ∧ (L 9 = false → w'.heap.size = w1.heap.size) ∧ (L 9 = true → w'.heap.size = w1.heap.size + 1)) 10 (by kernel_rfl) (by kernel_rfl) (by kernel_rfl) rfl (by decide) rfl rfl (⟨(Below.refl _ _).drew, fun _ => rfl, fun h => by cases h⟩) ⟨lasts_is _, lasts_is _, lasts_is _, lasts_is _, lasts_is _, lasts_is _, lasts_is _, lasts_is _, lasts_is _, (fun u wa wb ⟨h1, cs, h2, h3⟩ hb => ⟨h1, cs, Whole.under hb h2 (Whole.lt h2), h3⟩), (fun u wa wb h hb => Whole.under hb h (Whole.lt h)), trivial⟩ ⟨(fun _ => lastsR_is _), (fun _ => lastsR_is _), (fun _ => lastsR_is _), (fun _ => lastsR_is _), (fun _ => lastsR_is _), (fun _ => lastsR_is _), (fun _ => lastsR_is _), (fun _ => lastsR_is _), (fun _ => lastsR_is _), (fun _ => (fun u wa wb h hr => ⟨h.1, hr⟩)), (fun h => absurd rfl h), trivial⟩ ⟨?_, ?_, ?_, ?_, ?_, ?_, ?_, ?_, ?_, ?_, ?_, ?_⟩
    · intro L a wy Q' hL hi H F hK
      try dsimp only at hi
      have h0 : a.tmps[0]? = some (.pointer (some ⟨cb, 0, none⟩)) := F 0 rfl
      have HI := Lib.hid hi
      clear H F hi hL
      go_wp2_with fail
      exact hK _ _ (Below.refl _ _) HI.out rfl
    · intro L a wy Q' hL hi H F hK
      try dsimp only at hi
      obtain ⟨_, h32, rfl⟩ := H 0 ⟨.data, by simp, rfl⟩ _ rfl
      replace h32 := h32 _ rfl
      have HI := Lib.hid hi
      clear H F hi hL
      go_wp2_with fail
      exact hK _ _ (Below.refl _ _) HI.out rfl
    · intro L a wy Q' hL hi H F hK
      try dsimp only at hi
      obtain ⟨_, h33, rfl⟩ := H 1 ⟨.data, by simp, rfl⟩ _ rfl
      replace h33 := h33 _ rfl
      have HI := Lib.hid hi
      clear H F hi hL
      go_wp2_with fail
      exact hK _ _ (Below.refl _ _) HI.out rfl
    · intro L a wy Q' hL hi H F hK
      try dsimp only at hi
      obtain ⟨_, h34, rfl⟩ := H 2 ⟨.data, by simp, rfl⟩ _ rfl
      replace h34 := h34 _ rfl
      have HI := Lib.hid hi
      clear H F hi hL
      have kq0 : wy.cell? ⟨cb, 2, none⟩ = some (.map (some mb)) := (Whole.under HI.out.1 HC1.out (Whole.lt HC1.out)).cell 2
      go_wp2_with fail
      exact hK _ _ (Below.refl _ _) HI.out rfl
    · intro L a wy Q' hL hi H F hK
      try dsimp only at hi
      have h11 : a.tmps[11]? = some (.pointer (some ⟨wx.heap.size, 0, none⟩)) := F 11 rfl
      have HI := Lib.hid hi
      clear H F hi hL
      have kq0 : wy.cell? ⟨wx.heap.size, 0, none⟩ = some (.int .i64 k.a) := (Whole.under HI.out.1 HKB.out (Whole.lt HKB.out)).cell 0
      have kq1 : wy.cell? ⟨wx.heap.size, 1, none⟩ = some (.int .i64 k.b) := (Whole.under HI.out.1 HKB.out (Whole.lt HKB.out)).cell 1
      have kq2 : wy.cell? ⟨wx.heap.size, 2, none⟩ = some (.int .i64 k.c) := (Whole.under HI.out.1 HKB.out (Whole.lt HKB.out)).cell 2
      go_wp2_with fail
      exact hK _ _ (Below.refl _ _) HI.out rfl
    · intro L a wy Q' hL hi H F hK
      try dsimp only at hi
      obtain ⟨_, h35, rfl⟩ := H 3 ⟨.data, by simp, rfl⟩ _ rfl
      replace h35 := h35 _ rfl
      obtain ⟨_, h36, rfl⟩ := H 4 ⟨.data, by simp, rfl⟩ _ rfl
      replace h36 := h36 _ rfl
      have HI := Lib.hid hi
      clear H F hi hL
      have q : (Instr.lookup 57 (.map (some mb)) (.agg #[.int .i64 k.a, .int .i64 k.b, .int .i64 k.c]) true).run Try.prog wy = .ok (.tuple #[.agg #[.int .u32 0, .int .u32 0, .int .u32 0, .bool false, .int .i64 0], .bool false]) wy := by
        have q0 := MapAt.look_none true (HC0.out.under HI.out.1).map keyed41 Try.underlying57 (zero46 wy) (Key.keyOf HK.out) (ents_none HH.out)
        rw [if_pos rfl] at q0
        exact q0
      go_wp2_with fail
      exact hK _ _ (Below.refl _ _) HI.out rfl
    · intro L a wy Q' hL hi H F hK
      try dsimp only at hi
      obtain ⟨_, h37, rfl⟩ := H 5 ⟨.data, by simp, rfl⟩ _ rfl
      replace h37 := h37 _ rfl
      have HI := Lib.hid hi
      clear H F hi hL
      go_wp2_with fail
      exact hK _ _ (Below.refl _ _) HI.out rfl
    · intro L a wy Q' hL hi H F hK
      try dsimp only at hi
      obtain ⟨_, h31, rfl⟩ := H 6 ⟨.data, by simp, rfl⟩ _ rfl
      replace h31 := h31 _ rfl
      have HI := Lib.hid hi
      clear H F hi hL
      go_wp2_with fail
      exact hK _ _ (Below.refl _ _) HI.out rfl
    · intro L a wy Q' hL hi H F hK
      try dsimp only at hi
      obtain ⟨_, h31, rfl⟩ := H 6 ⟨.data, by simp, rfl⟩ _ rfl
      replace h31 := h31 _ rfl
      have HI := Lib.hid hi
      clear H F hi hL
      go_wp2_with fail
      exact hK _ _ (Below.refl _ _) HI.out rfl
    · intro L a wy Q' hL hi H F hK
      try dsimp only at hi
      have HI := Lib.hid hi
      clear H F hi
      have HE := Lib.hid (HI.out.2.1 hL)
      clear hL
      go_wp2_with fail
      have hn := Whole.new wy 46 #[.int .u32 0, .int .u32 0, .int .u32 0, .bool false, .int .i64 0]
      rw [HE.out] at hn
      exact hK _ _ ((Below.refl _ _).alloc (Nat.le_refl _) _) ⟨HI.out.1.alloc (by rw [HE.out]; exact Nat.le_refl _) _, fun h => by simp [upd] at h, fun _ => by rw [World.size_alloc, HE.out]⟩ ⟨by rw [HE.out], _, hn, rfl⟩
    · intro L a wy Q' hL hi H F hK
      try dsimp only at hi
      obtain ⟨_, h38, rfl⟩ := H 7 ⟨.data, by simp, rfl⟩ _ rfl
      replace h38 := h38 _ rfl
      obtain ⟨v12, h12, hv12⟩ := H 9 ⟨.data, by simp, rfl⟩ _ rfl
      replace h12 := h12 _ rfl
      have HV12 := Lib.hid hv12
      clear hv12
      have HI := Lib.hid hi
      clear H F hi hL
      obtain ⟨rfl, cs, hcs, hsz⟩ := HV12.out
      clear HV12
      have HCS := Lib.hid hcs
      have HSZ := Lib.hid hsz
      clear hcs hsz
      refine wpList_store_blk rfl 46 _ _ rfl w1.heap.size 0 (.agg #[.int .u32 0, .int .u32 0, .int .u32 0, .bool false, .int .i64 0]) (by simp [Act.eval, *]) (by simp [Act.eval, *]) 46 _ HCS.out (by rw [HSZ.out]; simp [Value.cells]) size46 rfl ?_
      intro w2 S2 W2
      rw [splice_all _ _ (by rw [HSZ.out]; rfl)] at W2
      exact hK undef w2 ⟨_, W2, rfl⟩ ⟨HI.out.1.trans (S2.below (Nat.le_refl _)), fun h => by rw [S2.size]; exact HI.out.2.1 h, fun h => by rw [S2.size]; exact HI.out.2.2 h⟩ W2
    · intro a wy hl L hi hL Q' hK
      try dsimp only at hi
      have HB := Lib.hid hi
      clear hi hL
      obtain ⟨_, rfl, _, rfl, _, rfl, _, rfl, _, rfl, _, rfl, _, rfl, _, rfl, _, rfl, u12, hu12, un10, hun10, rfl⟩ := hl
      have HU12 := Lib.hid hu12
      clear hu12
      have HUn10 := Lib.hid hun10
      clear hun10
      simp only [List.setIfInBounds_toArray, List.set_cons_zero, List.set_cons_succ]
      skip
      obtain ⟨rfl, -⟩ := HU12.out
      clear HU12 HUn10
      have HBY := Lib.hid HB.out.1
      clear HB
      have HLEN := Lib.hid (show s.keys.length ≤ 90000 by have := HC.out.ok.len; have := HC.out.ok.hi; simp [St.keys]; omega)
      have HMID := Lib.hid (show Mid w cb mb wx.heap.size v k d wy #[.int .i64 s.size, .int .i64 s.seq, .map (some mb), v, .int .i64 s.h, .int .i64 s.m, .int .i64 s.e, .int .i64 s.r] v s.keys (ents s.D) by
        have hc := HC0.out.under HBY.out
        have h1 : w.heap.size ≤ wx.heap.size := Nat.le_trans HBO.out.size HXO.out
        exact ⟨hc.blk, hc.map, hc.keys, .inl rfl, Whole.under HBY.out HDN.out (Whole.lt HDN.out), Whole.under HBY.out HKB.out (Whole.lt HKB.out), fun e => absurd (HC.out.keys.lt _ e) (by omega), Tch.of_below (HW1.out.trans (HBY.out.mono HW1.out.size)) (Nat.le_refl _)⟩)
      clear HC0 HC1 HKB HDN HW1 HO1 HX1 HS1
      have HKO := Lib.hid (map_keyed HC.out.map (ents_mem (show (ko, do') ∈ s.D by rw [HD.out]; simp)))
      have hq0 : wy.cell? ⟨cb, 0, none⟩ = some (.int .i64 s.size) := HMID.out.blk.cell 0
      have hq2 : wy.cell? ⟨cb, 2, none⟩ = some (.map (some mb)) := HMID.out.blk.cell 2
      have q : ∀ n ty, (Builtin.len_ #[57] ty #[.map (some mb)]).run Try.prog (wy.drewN n) = .ok (.int .i64 s.D.length) (wy.drewN n) := fun n ty => by
        have := MapAt.len (w := wy.drewN n) (HMID.out.map.kept rfl) Try.underlying57 ty
        rwa [ents_length] at this
      have hge : s.size ≤ (s.D.length : Int) := by have := HFU.out; omega
      go_wp2_with fail
      go_quiet (fail)
      clear hq0 hq2 q hge
      go_wp2_with (first | (go_at_call 36; go_must (refine (oldest_any _ cb _ _ _ v _ _ _ _ (D0.map Prod.fst) ko (HMID.out.below (below_drewN (Below.refl wy.heap.size wy) _)).blk (by rw [← HKS.out]; exact (HMID.out.below (below_drewN (Below.refl wy.heap.size wy) _)).keys)).mono ?_; rintro e w6 ⟨rfl, hb6⟩; have HB6 := Lib.hid hb6; clear hb6)) | (refine wpList_store_blk rfl 41 _ _ rfl w6.heap.size 0 (.agg #[.int .i64 ko.a, .int .i64 ko.b, .int .i64 ko.c]) rfl rfl 41 _ (Whole.new w6 41 _) (by simp [Value.cells]) sz41 rfl ?_; intro w7 S7 W7; have HS7 := Lib.hid S7; have HOB := Lib.hid (show Whole w7 w6.heap.size 41 #[.int .i64 ko.a, .int .i64 ko.b, .int .i64 ko.c] from W7); clear S7 W7))
      have HX7 := Lib.hid (show Below wy.heap.size wy w7 from ((below_drewN (Below.refl wy.heap.size wy) _).trans HB6.out).trans ((((Below.refl _ w6).alloc (Nat.le_refl _) _).trans (HS7.out.below (Nat.le_refl _))).mono HB6.out.size))
      have HM7 := Lib.hid (HMID.out.below HX7.out)
      have HO7 := Lib.hid (show wy.heap.size ≤ w6.heap.size from HB6.out.size)
      have HL7 := Lib.hid (show w.heap.size ≤ wy.heap.size from HMID.out.tch.size)
      clear HX7 HS7 HB6
      have HMW := Lib.hid (show Whole _ cb 62 #[.int .i64 s.size, .int .i64 s.seq, .map (some mb), v, .int .i64 s.h, .int .i64 s.m, .int .i64 s.e, .int .i64 s.r] from HM7.out.blk)
      have HMK := Lib.hid HM7.out.key
      have HMD := Lib.hid HM7.out.dec
      refine wp_region_last (fun w w' => Below w.heap.size w w') [some 58, some 59, some 60, some 61] [isV (.pointer (some ⟨cb, 0, none⟩)), isV (.pointer (some ⟨cb, 0, none⟩)), isV (.pointer (some ⟨cb, 3, none⟩)), isV (.agg #[.int .i64 ko.a, .int .i64 ko.b, .int .i64 ko.c])] (fun _ w' => Below w7.heap.size w7 w') 4 (by kernel_rfl) (by kernel_rfl) (by kernel_rfl) rfl (by decide) rfl rfl ((Below.refl _ _).drew) ⟨lasts_is _, lasts_is _, lasts_is _, lasts_is _, trivial⟩ ⟨(fun _ => lastsR_is _), (fun _ => lastsR_is _), (fun _ => lastsR_is _), (fun _ => lastsR_is _), trivial⟩ ⟨?_, ?_, ?_, ?_, ?_⟩
      · intro L a wa Q' hL hi H F hK
        try dsimp only at hi
        have h0 : a.tmps[0]? = some (.pointer (some ⟨cb, 0, none⟩)) := F 0 rfl
        have HI := Lib.hid hi
        clear H F hi hL
        go_wp2_with fail
        exact hK _ _ (Below.refl _ _) HI.out rfl
      · intro L a wa Q' hL hi H F hK
        try dsimp only at hi
        obtain ⟨_, h58, rfl⟩ := H 0 ⟨.data, by simp, rfl⟩ _ rfl
        replace h58 := h58 _ rfl
        have HI := Lib.hid hi
        clear H F hi hL
        go_wp2_with fail
        exact hK _ _ (Below.refl _ _) HI.out rfl
      · intro L a wa Q' hL hi H F hK
        try dsimp only at hi
        obtain ⟨_, h59, rfl⟩ := H 1 ⟨.data, by simp, rfl⟩ _ rfl
        replace h59 := h59 _ rfl
        have HI := Lib.hid hi
        clear H F hi hL
        go_wp2_with fail
        exact hK _ _ (Below.refl _ _) HI.out rfl
      · intro L a wa Q' hL hi H F hK
        try dsimp only at hi
        have h14 : a.tmps[14]? = some (.pointer (some ⟨w6.heap.size, 0, none⟩)) := F 14 rfl
        have HI := Lib.hid hi
        clear H F hi hL
        have kq0 : wa.cell? ⟨w6.heap.size, 0, none⟩ = some (.int .i64 ko.a) := (Whole.under HI.out HOB.out (Whole.lt HOB.out)).cell 0
        have kq1 : wa.cell? ⟨w6.heap.size, 1, none⟩ = some (.int .i64 ko.b) := (Whole.under HI.out HOB.out (Whole.lt HOB.out)).cell 1
        have kq2 : wa.cell? ⟨w6.heap.size, 2, none⟩ = some (.int .i64 ko.c) := (Whole.under HI.out HOB.out (Whole.lt HOB.out)).cell 2
        go_wp2_with fail
        exact hK _ _ (Below.refl _ _) HI.out rfl
      · intro a wa hl L hi hL Q' hK
        try dsimp only at hi
        have HB := Lib.hid hi
        clear hi hL
        obtain ⟨_, rfl, _, rfl, _, rfl, _, rfl, rfl⟩ := hl
        simp only [List.setIfInBounds_toArray, List.set_cons_zero, List.set_cons_succ]
        go_wp2_with (go_at_call 37; go_must (refine (forget_any _ cb _ _ _ v _ _ _ _ s.keys ko (HM7.out.below HB.out).blk (HM7.out.below HB.out).keys).mono ?_; rintro e w9 ⟨rfl, hturn⟩; have HTU := Lib.hid hturn; clear hturn))
        have HOB9 := Lib.hid (show Whole w9 w6.heap.size 41 #[.int .i64 ko.a, .int .i64 ko.b, .int .i64 ko.c] by
          have h1 := (HM7.out.below HB.out)
          obtain ⟨u', _, _, _, ht⟩ := HTU.out
          refine ht.whole (Whole.under HB.out HOB.out (Whole.lt HOB.out)) ?_
          have h2 := HO7.out
          have h3 := HL7.out
          have h4 := HC.out.blk.lt
          rintro (e | e)
          · omega
          · have := HC.out.keys.lt _ e; omega)
        have HM9' := Lib.hid ((HM7.out.below HB.out).turned HTU.out)
        obtain ⟨u9, hm9⟩ := HM9'.out
        rw [HKS.out, erase_last _ _ (by rw [← HKS.out]; exact HC.out.ok.nodup)] at hm9
        have HM9 := Lib.hid hm9
        clear hm9 HM9' HTU HMW HMK HMD HB HOB
        
        have HMW := Lib.hid (show Whole _ cb 62 #[.int .i64 s.size, .int .i64 s.seq, .map (some mb), u9, .int .i64 s.h, .int .i64 s.m, .int .i64 s.e, .int .i64 s.r] from HM9.out.blk)
        have HMK := Lib.hid HM9.out.key
        have HMD := Lib.hid HM9.out.dec
        refine wp_region_last (fun w w' => Below w.heap.size w w') [some 63, some 64, some 65, some 66, some 67] [isV (.pointer (some ⟨cb, 0, none⟩)), isV (.pointer (some ⟨cb, 0, none⟩)), isV (.pointer (some ⟨cb, 2, none⟩)), isV (.map (some mb)), isV (.agg #[.int .i64 ko.a, .int .i64 ko.b, .int .i64 ko.c])] (fun _ w' => Below w9.heap.size w9 w') 5 (by kernel_rfl) (by kernel_rfl) (by kernel_rfl) rfl (by decide) rfl rfl ((Below.refl _ _).drew) ⟨lasts_is _, lasts_is _, lasts_is _, lasts_is _, lasts_is _, trivial⟩ ⟨(fun _ => lastsR_is _), (fun _ => lastsR_is _), (fun _ => lastsR_is _), (fun _ => lastsR_is _), (fun _ => lastsR_is _), trivial⟩ ⟨?_, ?_, ?_, ?_, ?_, ?_⟩
        · intro L a wb Q' hL hi H F hK
          try dsimp only at hi
          have h0 : a.tmps[0]? = some (.pointer (some ⟨cb, 0, none⟩)) := F 0 rfl
          have HI := Lib.hid hi
          clear H F hi hL
          go_wp2_with fail
          exact hK _ _ (Below.refl _ _) HI.out rfl
        · intro L a wb Q' hL hi H F hK
          try dsimp only at hi
          obtain ⟨_, h63, rfl⟩ := H 0 ⟨.data, by simp, rfl⟩ _ rfl
          replace h63 := h63 _ rfl
          have HI := Lib.hid hi
          clear H F hi hL
          go_wp2_with fail
          exact hK _ _ (Below.refl _ _) HI.out rfl
        · intro L a wb Q' hL hi H F hK
          try dsimp only at hi
          obtain ⟨_, h64, rfl⟩ := H 1 ⟨.data, by simp, rfl⟩ _ rfl
          replace h64 := h64 _ rfl
          have HI := Lib.hid hi
          clear H F hi hL
          go_wp2_with fail
          exact hK _ _ (Below.refl _ _) HI.out rfl
        · intro L a wb Q' hL hi H F hK
          try dsimp only at hi
          obtain ⟨_, h65, rfl⟩ := H 2 ⟨.data, by simp, rfl⟩ _ rfl
          replace h65 := h65 _ rfl
          have HI := Lib.hid hi
          clear H F hi hL
          have kq0 : wb.cell? ⟨cb, 2, none⟩ = some (.map (some mb)) := (Whole.under HI.out HMW.out (Whole.lt HMW.out)).cell 2
          go_wp2_with fail
          exact hK _ _ (Below.refl _ _) HI.out rfl
        · intro L a wb Q' hL hi H F hK
          try dsimp only at hi
          have h14 : a.tmps[14]? = some (.pointer (some ⟨w6.heap.size, 0, none⟩)) := F 14 rfl
          have HI := Lib.hid hi
          clear H F hi hL
          have kq0 : wb.cell? ⟨w6.heap.size, 0, none⟩ = some (.int .i64 ko.a) := (Whole.under HI.out HOB9.out (Whole.lt HOB9.out)).cell 0
          have kq1 : wb.cell? ⟨w6.heap.size, 1, none⟩ = some (.int .i64 ko.b) := (Whole.under HI.out HOB9.out (Whole.lt HOB9.out)).cell 1
          have kq2 : wb.cell? ⟨w6.heap.size, 2, none⟩ = some (.int .i64 ko.c) := (Whole.under HI.out HOB9.out (Whole.lt HOB9.out)).cell 2
          go_wp2_with fail
          exact hK _ _ (Below.refl _ _) HI.out rfl
        · intro a wb hl L hi hL Q' hK
          try dsimp only at hi
          have HB := Lib.hid hi
          clear hi hL
          obtain ⟨_, rfl, _, rfl, _, rfl, _, rfl, _, rfl, rfl⟩ := hl
          simp only [List.setIfInBounds_toArray, List.set_cons_zero, List.set_cons_succ]
          refine wpList_delete _ rfl (.tmp 66) (.tmp 67) 57 41 rfl (.map (some mb)) (.agg #[.int .i64 ko.a, .int .i64 ko.b, .int .i64 ko.c]) rfl rfl (fun w' => MapAt w' Try.prog 41 mb (ents D0) ∧ wb.grownBy w' (some mb) ∧ w'.heap.size = wb.heap.size) ((HM9.out.below HB.out).map.del keyed41 Try.underlying57 HKO.out.choose_spec (by rw [HD.out]; exact ents_last D0 (ko, do'))) ?_
          intro w10 hp
          have HP := Lib.hid hp
          clear hp
          have HM10 := Lib.hid ((HM9.out.below HB.out).mapped HP.out.2.1 HP.out.1)
          clear HP HMW HMK HMD HB
          go_wp2_with fail
          have HW10 := Lib.hid (show Whole _ cb 62 #[.int .i64 s.size, .int .i64 s.seq, .map (some mb), u9, .int .i64 s.h, .int .i64 s.m, .int .i64 s.e, .int .i64 s.r] from HM10.out.blk)
          
          refine wp_region_last (fun w w' => Below w.heap.size w w') [some 68, some 69, some 70, some 71, some 72, some 73, some 74, some 75, some 76] [isV (.pointer (some ⟨cb, 0, none⟩)), isV (.pointer (some ⟨cb, 0, none⟩)), isV (.pointer (some ⟨cb, 4, none⟩)), isV (.pointer (some ⟨cb, 6, none⟩)), isV (.int .i64 s.e), isV (.int .i64 (s.e + 1)), isV (.pointer (some ⟨cb, 0, none⟩)), isV (.pointer (some ⟨cb, 4, none⟩)), isV (.pointer (some ⟨cb, 6, none⟩))] (fun _ w' => Below w10.heap.size w10 w') 9 (by kernel_rfl) (by kernel_rfl) (by kernel_rfl) rfl (by decide) rfl rfl ((Below.refl _ _).drew) ⟨lasts_is _, lasts_is _, lasts_is _, lasts_is _, lasts_is _, lasts_is _, lasts_is _, lasts_is _, lasts_is _, trivial⟩ ⟨(fun _ => lastsR_is _), (fun _ => lastsR_is _), (fun _ => lastsR_is _), (fun _ => lastsR_is _), (fun _ => lastsR_is _), (fun _ => lastsR_is _), (fun _ => lastsR_is _), (fun _ => lastsR_is _), (fun _ => lastsR_is _), trivial⟩ ⟨?_, ?_, ?_, ?_, ?_, ?_, ?_, ?_, ?_, ?_⟩
          · intro L a wy Q' hL hi H F hK
            try dsimp only at hi
            have h0 : a.tmps[0]? = some (.pointer (some ⟨cb, 0, none⟩)) := F 0 rfl
            have HI := Lib.hid hi
            clear H F hi hL
            go_wp2_with fail
            exact hK _ _ (Below.refl _ _) HI.out rfl
          · intro L a wy Q' hL hi H F hK
            try dsimp only at hi
            obtain ⟨_, h68, rfl⟩ := H 0 ⟨.data, by simp, rfl⟩ _ rfl
            replace h68 := h68 _ rfl
            have HI := Lib.hid hi
            clear H F hi hL
            go_wp2_with fail
            exact hK _ _ (Below.refl _ _) HI.out rfl
          · intro L a wy Q' hL hi H F hK
            try dsimp only at hi
            obtain ⟨_, h69, rfl⟩ := H 1 ⟨.data, by simp, rfl⟩ _ rfl
            replace h69 := h69 _ rfl
            have HI := Lib.hid hi
            clear H F hi hL
            go_wp2_with fail
            exact hK _ _ (Below.refl _ _) HI.out rfl
          · intro L a wy Q' hL hi H F hK
            try dsimp only at hi
            obtain ⟨_, h70, rfl⟩ := H 2 ⟨.data, by simp, rfl⟩ _ rfl
            replace h70 := h70 _ rfl
            have HI := Lib.hid hi
            clear H F hi hL
            go_wp2_with fail
            exact hK _ _ (Below.refl _ _) HI.out rfl
          · intro L a wy Q' hL hi H F hK
            try dsimp only at hi
            obtain ⟨_, h71, rfl⟩ := H 3 ⟨.data, by simp, rfl⟩ _ rfl
            replace h71 := h71 _ rfl
            have HI := Lib.hid hi
            clear H F hi hL
            have kq0 : wy.cell? ⟨cb, 6, none⟩ = some (.int .i64 s.e) := (Whole.under HI.out HW10.out (Whole.lt HW10.out)).cell 6
            go_wp2_with fail
            exact hK _ _ (Below.refl _ _) HI.out rfl
          · intro L a wy Q' hL hi H F hK
            try dsimp only at hi
            obtain ⟨_, h72, rfl⟩ := H 4 ⟨.data, by simp, rfl⟩ _ rfl
            replace h72 := h72 _ rfl
            have HI := Lib.hid hi
            clear H F hi hL
            go_wp2_with fail
            exact hK _ _ (Below.refl _ _) HI.out rfl
          · intro L a wy Q' hL hi H F hK
            try dsimp only at hi
            obtain ⟨_, h68, rfl⟩ := H 0 ⟨.data, by simp, rfl⟩ _ rfl
            replace h68 := h68 _ rfl
            have HI := Lib.hid hi
            clear H F hi hL
            go_wp2_with fail
            exact hK _ _ (Below.refl _ _) HI.out rfl
          · intro L a wy Q' hL hi H F hK
            try dsimp only at hi
            obtain ⟨_, h74, rfl⟩ := H 6 ⟨.data, by simp, rfl⟩ _ rfl
            replace h74 := h74 _ rfl
            have HI := Lib.hid hi
            clear H F hi hL
            go_wp2_with fail
            exact hK _ _ (Below.refl _ _) HI.out rfl
          · intro L a wy Q' hL hi H F hK
            try dsimp only at hi
            obtain ⟨_, h75, rfl⟩ := H 7 ⟨.data, by simp, rfl⟩ _ rfl
            replace h75 := h75 _ rfl
            have HI := Lib.hid hi
            clear H F hi hL
            go_wp2_with fail
            exact hK _ _ (Below.refl _ _) HI.out rfl
          · intro a wy hl L hi hL Q' hK
            try dsimp only at hi
            have HB := Lib.hid hi
            clear hi hL
            obtain ⟨_, rfl, _, rfl, _, rfl, _, rfl, _, rfl, _, rfl, _, rfl, _, rfl, _, rfl, rfl⟩ := hl
            simp only [List.setIfInBounds_toArray, List.set_cons_zero, List.set_cons_succ]
            go_wp2_with (first | (refine wpList_store_blk rfl 3 _ _ rfl cb 6 (.int .i64 (s.e + 1)) rfl rfl 62 _ (Whole.under HB.out HW10.out (Whole.lt HW10.out)) (by simp [Value.cells]) size3 rfl ?_; intro w11 S11 W11; have HW11 := Lib.hid (show Whole w11 cb 62 #[.int .i64 s.size, .int .i64 s.seq, .map (some mb), u9, .int .i64 s.h, .int .i64 s.m, .int .i64 (s.e + 1), .int .i64 s.r] from W11); have HS11 := Lib.hid S11; clear S11 W11))
            have HMID2 := Lib.hid ((HM10.out.below HB.out).sto HS11.out HW11.out)
            clear HB HW10 HW11 HS11 HMID
            have HMID := Lib.hid HMID2.out
            clear HMID2
            have HLEN2 := Lib.hid (show (D0.map Prod.fst).length ≤ 90000 by have h1 := HLEN.out; rw [HKS.out, List.length_append] at h1; omega)
            clear HLEN
            have HLEN := Lib.hid HLEN2.out
            clear HLEN2
            have HMW := Lib.hid (show Whole _ cb 62 #[.int .i64 s.size, .int .i64 s.seq, .map (some mb), u9, .int .i64 s.h, .int .i64 s.m, .int .i64 (s.e + 1), .int .i64 s.r] from HMID.out.blk)
            have HMK := Lib.hid HMID.out.key
            have HMD := Lib.hid HMID.out.dec
            refine wp_region_last (fun w w' => Below w.heap.size w w') [some 77, some 78, some 79, some 80, some 81, some 82] [isV (.pointer (some ⟨cb, 0, none⟩)), isV (.pointer (some ⟨cb, 0, none⟩)), isV (.pointer (some ⟨cb, 2, none⟩)), isV (.map (some mb)), isV (.agg #[.int .i64 k.a, .int .i64 k.b, .int .i64 k.c]), isV (.agg #[.int .u32 d.allowed, .int .u32 d.auditAllow, .int .u32 d.auditDeny, .bool d.permissive, .int .i64 d.seq])] (fun _ w' => Below w11.heap.size w11 w') 6 (by kernel_rfl) (by kernel_rfl) (by kernel_rfl) rfl (by decide) rfl rfl ((Below.refl _ _).drew) ⟨lasts_is _, lasts_is _, lasts_is _, lasts_is _, lasts_is _, lasts_is _, trivial⟩ ⟨(fun _ => lastsR_is _), (fun _ => lastsR_is _), (fun _ => lastsR_is _), (fun _ => lastsR_is _), (fun _ => lastsR_is _), (fun _ => lastsR_is _), trivial⟩ ⟨?_, ?_, ?_, ?_, ?_, ?_, ?_⟩
            · intro L a wz Q' hL hi H F hK
              try dsimp only at hi
              have h0 : a.tmps[0]? = some (.pointer (some ⟨cb, 0, none⟩)) := F 0 rfl
              have HI := Lib.hid hi
              clear H F hi hL
              go_wp2_with fail
              exact hK _ _ (Below.refl _ _) HI.out rfl
            · intro L a wz Q' hL hi H F hK
              try dsimp only at hi
              obtain ⟨_, h77, rfl⟩ := H 0 ⟨.data, by simp, rfl⟩ _ rfl
              replace h77 := h77 _ rfl
              have HI := Lib.hid hi
              clear H F hi hL
              go_wp2_with fail
              exact hK _ _ (Below.refl _ _) HI.out rfl
            · intro L a wz Q' hL hi H F hK
              try dsimp only at hi
              obtain ⟨_, h78, rfl⟩ := H 1 ⟨.data, by simp, rfl⟩ _ rfl
              replace h78 := h78 _ rfl
              have HI := Lib.hid hi
              clear H F hi hL
              go_wp2_with fail
              exact hK _ _ (Below.refl _ _) HI.out rfl
            · intro L a wz Q' hL hi H F hK
              try dsimp only at hi
              obtain ⟨_, h79, rfl⟩ := H 2 ⟨.data, by simp, rfl⟩ _ rfl
              replace h79 := h79 _ rfl
              have HI := Lib.hid hi
              clear H F hi hL
              have kq0 : wz.cell? ⟨cb, 2, none⟩ = some (.map (some mb)) := (Whole.under HI.out HMW.out (Whole.lt HMW.out)).cell 2
              go_wp2_with fail
              exact hK _ _ (Below.refl _ _) HI.out rfl
            · intro L a wz Q' hL hi H F hK
              try dsimp only at hi
              have h11 : a.tmps[11]? = some (.pointer (some ⟨wx.heap.size, 0, none⟩)) := F 11 rfl
              have HI := Lib.hid hi
              clear H F hi hL
              have kq0 : wz.cell? ⟨wx.heap.size, 0, none⟩ = some (.int .i64 k.a) := (Whole.under HI.out HMK.out (Whole.lt HMK.out)).cell 0
              have kq1 : wz.cell? ⟨wx.heap.size, 1, none⟩ = some (.int .i64 k.b) := (Whole.under HI.out HMK.out (Whole.lt HMK.out)).cell 1
              have kq2 : wz.cell? ⟨wx.heap.size, 2, none⟩ = some (.int .i64 k.c) := (Whole.under HI.out HMK.out (Whole.lt HMK.out)).cell 2
              go_wp2_with fail
              exact hK _ _ (Below.refl _ _) HI.out rfl
            · intro L a wz Q' hL hi H F hK
              try dsimp only at hi
              have h9 : a.tmps[9]? = some (.pointer (some ⟨w.heap.size, 0, none⟩)) := F 9 rfl
              have HI := Lib.hid hi
              clear H F hi hL
              have kq0 : wz.cell? ⟨w.heap.size, 0, none⟩ = some (.int .u32 d.allowed) := (Whole.under HI.out HMD.out (Whole.lt HMD.out)).cell 0
              have kq1 : wz.cell? ⟨w.heap.size, 1, none⟩ = some (.int .u32 d.auditAllow) := (Whole.under HI.out HMD.out (Whole.lt HMD.out)).cell 1
              have kq2 : wz.cell? ⟨w.heap.size, 2, none⟩ = some (.int .u32 d.auditDeny) := (Whole.under HI.out HMD.out (Whole.lt HMD.out)).cell 2
              have kq3 : wz.cell? ⟨w.heap.size, 3, none⟩ = some (.bool d.permissive) := (Whole.under HI.out HMD.out (Whole.lt HMD.out)).cell 3
              have kq4 : wz.cell? ⟨w.heap.size, 4, none⟩ = some (.int .i64 d.seq) := (Whole.under HI.out HMD.out (Whole.lt HMD.out)).cell 4
              go_wp2_with fail
              exact hK _ _ (Below.refl _ _) HI.out rfl
            · intro a wz hl L hi hL Q' hK
              try dsimp only at hi
              have HB := Lib.hid hi
              clear hi hL
              obtain ⟨_, rfl, _, rfl, _, rfl, _, rfl, _, rfl, _, rfl, rfl⟩ := hl
              simp only [List.setIfInBounds_toArray, List.set_cons_zero, List.set_cons_succ]
              refine wpList_put _ rfl (.tmp 80) (.tmp 81) (.tmp 82) 57 rfl (.map (some mb)) (.agg #[.int .i64 k.a, .int .i64 k.b, .int .i64 k.c]) (.agg #[.int .u32 d.allowed, .int .u32 d.auditAllow, .int .u32 d.auditDeny, .bool d.permissive, .int .i64 d.seq]) rfl rfl rfl (fun w' => MapAt w' Try.prog 41 mb ((k.val, d.val) :: ents D0) ∧ wz.grownBy w' (some mb) ∧ w'.heap.size = wz.heap.size) ((HMID.out.below HB.out).map.put_new keyed41 Try.underlying57 (Key.keyOf HK.out) (ents_none (fun p hp => HH.out p (by rw [HD.out]; exact List.mem_append_left _ hp)))) ?_
              intro w12 hp
              have HP := Lib.hid hp
              clear hp
              have HMP := Lib.hid ((HMID.out.below HB.out).mapped HP.out.2.1 HP.out.1)
              clear HP HMW HMK HMD HB
              go_wp2_with fail
              
              have HMW := Lib.hid (show Whole _ cb 62 #[.int .i64 s.size, .int .i64 s.seq, .map (some mb), u9, .int .i64 s.h, .int .i64 s.m, .int .i64 (s.e + 1), .int .i64 s.r] from HMP.out.blk)
              have HMK := Lib.hid HMP.out.key
              have HMD := Lib.hid HMP.out.dec
              refine wp_region_last (fun w w' => Below w.heap.size w w') [some 83, some 84, some 85, some 86] [isV (.pointer (some ⟨cb, 0, none⟩)), isV (.pointer (some ⟨cb, 0, none⟩)), isV (.pointer (some ⟨cb, 3, none⟩)), isV (.agg #[.int .i64 k.a, .int .i64 k.b, .int .i64 k.c])] (fun _ w' => Below w12.heap.size w12 w') 4 (by kernel_rfl) (by kernel_rfl) (by kernel_rfl) rfl (by decide) rfl rfl ((Below.refl _ _).drew) ⟨lasts_is _, lasts_is _, lasts_is _, lasts_is _, trivial⟩ ⟨(fun _ => lastsR_is _), (fun _ => lastsR_is _), (fun _ => lastsR_is _), (fun _ => lastsR_is _), trivial⟩ ⟨?_, ?_, ?_, ?_, ?_⟩
              · intro L a wt Q' hL hi H F hK
                try dsimp only at hi
                have h0 : a.tmps[0]? = some (.pointer (some ⟨cb, 0, none⟩)) := F 0 rfl
                have HI := Lib.hid hi
                clear H F hi hL
                go_wp2_with fail
                exact hK _ _ (Below.refl _ _) HI.out rfl
              · intro L a wt Q' hL hi H F hK
                try dsimp only at hi
                obtain ⟨_, h83, rfl⟩ := H 0 ⟨.data, by simp, rfl⟩ _ rfl
                replace h83 := h83 _ rfl
                have HI := Lib.hid hi
                clear H F hi hL
                go_wp2_with fail
                exact hK _ _ (Below.refl _ _) HI.out rfl
              · intro L a wt Q' hL hi H F hK
                try dsimp only at hi
                obtain ⟨_, h84, rfl⟩ := H 1 ⟨.data, by simp, rfl⟩ _ rfl
                replace h84 := h84 _ rfl
                have HI := Lib.hid hi
                clear H F hi hL
                go_wp2_with fail
                exact hK _ _ (Below.refl _ _) HI.out rfl
              · intro L a wt Q' hL hi H F hK
                try dsimp only at hi
                have h11 : a.tmps[11]? = some (.pointer (some ⟨wx.heap.size, 0, none⟩)) := F 11 rfl
                have HI := Lib.hid hi
                clear H F hi hL
                have kq0 : wt.cell? ⟨wx.heap.size, 0, none⟩ = some (.int .i64 k.a) := (Whole.under HI.out HMK.out (Whole.lt HMK.out)).cell 0
                have kq1 : wt.cell? ⟨wx.heap.size, 1, none⟩ = some (.int .i64 k.b) := (Whole.under HI.out HMK.out (Whole.lt HMK.out)).cell 1
                have kq2 : wt.cell? ⟨wx.heap.size, 2, none⟩ = some (.int .i64 k.c) := (Whole.under HI.out HMK.out (Whole.lt HMK.out)).cell 2
                go_wp2_with fail
                exact hK _ _ (Below.refl _ _) HI.out rfl
              · intro a wt hl L hi hL Q' hK
                try dsimp only at hi
                have HB := Lib.hid hi
                clear hi hL
                obtain ⟨_, rfl, _, rfl, _, rfl, _, rfl, rfl⟩ := hl
                simp only [List.setIfInBounds_toArray, List.set_cons_zero, List.set_cons_succ]
                go_wp2_with (go_at_call 35; go_must (refine (use_any _ cb _ _ _ u9 _ _ _ _ (D0.map Prod.fst) k (HMP.out.below HB.out).blk (HMP.out.below HB.out).keys HLEN.out).mono ?_; rintro e wr ⟨rfl, hturn⟩; have HTU := Lib.hid ((HMP.out.below HB.out).turned hturn); clear hturn))
                go_ret
                obtain ⟨u', hmid⟩ := HTU.out
                exact ⟨rfl, evict_did HC.out HD.out HH.out HFU.out hmid⟩
                

end Go.Proofs.Ytcdhjcjdphnleaa
