import Derived.Test.YtcdhjcjdphnleaaV
namespace Go.Proofs.Ytcdhjcjdphnleaa
open Go Go.WideMaps Go.RowKit

theorem size46 : (Try.prog.info? 46).map (·.size) = some 5 := by kernel_rfl
theorem whole_two (w : World) (o : Obj) (cs : Array Value) (t : TypeId) : Whole ((w.alloc o).alloc (.cells cs t)) (w.heap.size + 1) t cs := by
  have := Whole.new (w.alloc o) t cs
  simpa using this
theorem splice_all (cs : Array Value) (l : List Value) (h : cs.size = l.length) : splice cs 0 l = l.toArray := by
  apply Array.toList_inj.1
  rw [splice_toList _ _ _ (by omega)]
  simp [List.drop_of_length_le (show cs.toList.length ≤ l.length by simp [h])]

/-! ### Lists of decisions -/
def rest (D : List (Key × Dec)) (k : Key) : List (Key × Dec) := D.filter fun p => !(p.1 == k)
theorem rest_keys {D : List (Key × Dec)} (hn : (D.map Prod.fst).Nodup) (k : Key) : (rest D k).map Prod.fst = (D.map Prod.fst).erase k := by
  rw [hn.erase_eq_filter]
  unfold rest
  rw [List.filter_map]
  congr 1
theorem rest_perm : ∀ {D : List (Key × Dec)} {k : Key} {d : Dec}, (D.map Prod.fst).Nodup → (k, d) ∈ D → D.Perm ((k, d) :: rest D k)
  | [], _, _, _, h => by cases h
  | p :: D, k, d, hn, h => by
    simp only [List.map_cons, List.nodup_cons] at hn
    rcases List.mem_cons.1 h with rfl | h
    · have : rest ((k, d) :: D) k = D := by
        unfold rest
        rw [List.filter_cons]
        simp only [beq_self_eq_true, Bool.not_true, Bool.false_eq_true, if_false]
        rw [List.filter_eq_self]
        intro q hq
        have : q.1 ≠ k := fun e => hn.1 (List.mem_map.2 ⟨q, hq, e⟩)
        simpa using this
      rw [this]
    · have hne : p.1 ≠ k := fun e => hn.1 (by rw [e]; exact List.mem_map_of_mem (f := Prod.fst) h)
      have hr : rest (p :: D) k = p :: rest D k := by
        unfold rest
        rw [List.filter_cons]
        simp [hne]
      rw [hr]
      exact ((rest_perm hn.2 h).cons p).trans (List.Perm.swap _ _ _)
theorem rest_none {D : List (Key × Dec)} {k : Key} (h : ∀ p ∈ D, p.1 ≠ k) : rest D k = D := by
  unfold rest
  rw [List.filter_eq_self]
  intro q hq
  simpa using h q hq
theorem ents_perm {D E : List (Key × Dec)} (h : D.Perm E) : (ents D).Perm (ents E) := h.map _
theorem ents_mem {D : List (Key × Dec)} {k : Key} {d : Dec} (h : (k, d) ∈ D) : (k.val, d.val) ∈ ents D := List.mem_map.2 ⟨(k, d), h, rfl⟩
theorem ents_none {D : List (Key × Dec)} {k : Key} (h : ∀ p ∈ D, p.1 ≠ k) : ∀ p ∈ ents D, p.1 ≠ k.val := by
  intro p hp e
  obtain ⟨q, hq, rfl⟩ := List.mem_map.1 hp
  exact h q hq (Key.val_inj e)

/-! ### A cache turned -/
theorem CacheAt.turn {w w' : World} {cb mb : Nat} {v v' : Value} {F : Nat → Prop} {s s' : St} (h : CacheAt w cb mb v F s) (ht : Tch w w' (fun i => F i))
    (hb : Whole w' cb 62 (s'.cells mb v')) (hk : KeysAt w' v' s'.keys) (ho : v'.ownBlock = v.ownBlock ∨ ∃ g, v'.ownBlock = some g ∧ w.heap.size ≤ g) (hm : MapAt w' Try.prog 41 mb (ents s'.D)) (hok : s'.Ok) (hnil : s'.D = [] → v' = .slice none 0 0) : Did w w' cb F s' := by
  refine ⟨fun i => i = cb ∨ i = mb ∨ v'.ownBlock = some i, ⟨mb, v', hb, hm, hk, hnil, fun i => Iff.rfl, hok⟩, ht, ?_⟩
  rintro i (rfl | rfl | hv)
  · exact .inl ((h.foot _).2 (.inl rfl))
  · exact .inl ((h.foot _).2 (.inr (.inl rfl)))
  · rcases ho with ho | ⟨g, ho, hg⟩
    · exact .inl ((h.foot _).2 (.inr (.inr (ho ▸ hv))))
    · rw [ho] at hv
      cases hv
      exact .inr hg
theorem Did.from {a w w' : World} {cb : Nat} {F : Nat → Prop} {s' : St} (hb : Below a.heap.size a w) (h : Did w w' cb F s') : Did a w' cb F s' := by
  obtain ⟨F', h1, h2, h3⟩ := h
  exact ⟨F', h1, (Tch.of_below hb (Nat.le_refl _)).trans h2, fun i hi => (h3 i hi).imp id (Nat.le_trans hb.size)⟩

theorem CacheAt.same {w w' : World} {cb mb : Nat} {v : Value} {F : Nat → Prop} {s s' : St} (h : CacheAt w cb mb v F s) (ht : Tch w w' (fun i => i = cb)) (hb : Whole w' cb 62 (s'.cells mb v)) (hD : s'.D = s.D) (hok : s'.Ok) : Did w w' cb F s' := by
  have hcb : F cb := (h.foot _).2 (.inl rfl)
  have hk : s'.keys = s.keys := by unfold St.keys; rw [hD]
  refine h.turn (ht.mono fun i e => .inl (e ▸ hcb)) hb ?_ (.inl rfl) ?_ hok ?_
  · rw [hk]
    exact h.keys.tch ht fun g hg e => h.far (by rw [hg, e])
  · rw [hD]
    exact h.map.kept (ht.block _ h.map.lt h.ne)
  · rw [hD]
    exact h.nil
def St.miss (s : St) : St := { s with m := s.m + 1 }
def St.hit (s : St) (k : Key) (d : Dec) : St := { s with h := s.h + 1, D := (k, d) :: rest s.D k }
theorem St.Ok.hit {s : St} (h : s.Ok) {k : Key} {d : Dec} (hin : (k, d) ∈ s.D) : (s.hit k d).Ok := by
  have hp := rest_perm h.nodup hin
  refine ⟨h.lo, h.hi, ?_, ?_⟩
  · show (((k, d) :: rest s.D k).length : Int) ≤ s.size
    rw [← hp.length_eq]
    exact h.len
  · exact (hp.map Prod.fst).nodup_iff.1 h.nodup
theorem hit_keys {s : St} (h : s.Ok) (k : Key) (d : Dec) : (s.hit k d).keys = k :: s.keys.erase k := by
  show k :: (rest s.D k).map Prod.fst = _
  rw [rest_keys h.nodup]
  rfl

set_option maxRecDepth 100000 in
set_option maxHeartbeats 4000000 in
theorem find_miss (w : World) (cb : Nat) (F : Nat → Prop) (s : St) (k : Key) (h : Cache w cb F s) (hc : s.Cnt 1000000) (hk : k.ok) (hno : ∀ p ∈ s.D, p.1 ≠ k) :
    Calls Try.prog 21 #[.pointer (some ⟨cb, 0, none⟩), .int .i64 k.a, .int .i64 k.b, .int .i64 k.c] w fun e w' => e = .returned (.tuple #[.agg #[.int .u32 0, .int .u32 0, .int .u32 0, .bool false, .int .i64 0], .bool false]) ∧ Did w w' cb F s.miss := by
  obtain ⟨mb, v, h⟩ := h
  have hlo := h.ok.lo
  have HC := Lib.hid h
  have HW := Lib.hid (show Whole w cb 62 #[.int .i64 s.size, .int .i64 s.seq, .map (some mb), v, .int .i64 s.h, .int .i64 s.m, .int .i64 s.e, .int .i64 s.r] from h.blk)
  have hx0 := hc.m0
  have hx1 := hc.m1
  have HK := Lib.hid hk
  have HH := Lib.hid hno
  clear hk hno
  clear h hc
  go_enter Try.func21, Try.ntmps21
  go_wp2_with (first | (go_at_call 33; go_must (refine (made_yes _ cb s.size _ _ _ _ _ _ _ (HW.out.alloc _) (by omega)).mono ?_; rintro e w' ⟨rfl, rfl⟩)) | (refine wpList_store_blk rfl 41 _ _ rfl (w.heap.size + 1) 0 (.agg #[.int .i64 k.a, .int .i64 k.b, .int .i64 k.c]) rfl rfl 41 _ (whole_two w _ _ _) (by simp [Value.cells]) sz41 rfl ?_; intro w1 S1 W1; have HS1 := Lib.hid S1; have HKB := Lib.hid (show Whole w1 (w.heap.size + 1) 41 #[.int .i64 k.a, .int .i64 k.b, .int .i64 k.c] from W1); clear S1 W1))
  have HB1 := Lib.hid (show Below w.heap.size w w1 from (((Below.refl _ w).alloc (Nat.le_refl _) _).alloc (by simp) _).trans (HS1.out.below (by omega)))
  have HC0 := Lib.hid (HC.out.under HB1.out)
  have HC1 := Lib.hid (show Whole w1 cb 62 #[.int .i64 s.size, .int .i64 s.seq, .map (some mb), v, .int .i64 s.h, .int .i64 s.m, .int .i64 s.e, .int .i64 s.r] from HC0.out.blk)
  have hlt := HC.out.blk.lt
  have H8 := Lib.hid (HS1.out.whole ((Whole.new w 46 #[.int .u32 0, .int .u32 0, .int .u32 0, .bool false, .int .i64 0]).alloc _) (by omega))
  refine wp_region_last (fun _ w' => ∃ cs, Whole w' w1.heap.size 46 cs ∧ cs.size = 5) [some 22, some 23, some 24, some 25, some 26, some 27, some 21, some 28, some 29, some 11, none] [isV (.pointer (some ⟨cb, 0, none⟩)), isV (.pointer (some ⟨cb, 0, none⟩)), isV (.pointer (some ⟨cb, 2, none⟩)), isV (.map (some mb)), isV (.agg #[.int .i64 k.a, .int .i64 k.b, .int .i64 k.c]), isV (.tuple #[.agg #[.int .u32 0, .int .u32 0, .int .u32 0, .bool false, .int .i64 0], .bool false]), isV (.tuple #[.agg #[.int .u32 0, .int .u32 0, .int .u32 0, .bool false, .int .i64 0], .bool false]), isV (.agg #[.int .u32 0, .int .u32 0, .int .u32 0, .bool false, .int .i64 0]), isV (.bool false), fun u w' => u = .pointer (some ⟨w1.heap.size, 0, none⟩) ∧ ∃ cs, Whole w' w1.heap.size 46 cs ∧ cs.size = 5, fun _ w' => Whole w' w1.heap.size 46 #[.int .u32 0, .int .u32 0, .int .u32 0, .bool false, .int .i64 0]] (fun L w' => Below w1.heap.size w1 w' ∧ (L 9 = false → w'.heap.size = w1.heap.size) ∧ (L 9 = true → w'.heap.size = w1.heap.size + 1)) 10 (by kernel_rfl) (by kernel_rfl) (by kernel_rfl) rfl (by decide) rfl rfl (⟨(Below.refl _ _).drew, fun _ => rfl, fun h => by cases h⟩) ⟨lasts_is _, lasts_is _, lasts_is _, lasts_is _, lasts_is _, lasts_is _, lasts_is _, lasts_is _, lasts_is _, (fun u wa wb ⟨h1, cs, h2, h3⟩ hb => ⟨h1, cs, Whole.under hb h2 (Whole.lt h2), h3⟩), (fun u wa wb h hb => Whole.under hb h (Whole.lt h)), trivial⟩ ⟨(fun _ => lastsR_is _), (fun _ => lastsR_is _), (fun _ => lastsR_is _), (fun _ => lastsR_is _), (fun _ => lastsR_is _), (fun _ => lastsR_is _), (fun _ => lastsR_is _), (fun _ => lastsR_is _), (fun _ => lastsR_is _), (fun _ => (fun u wa wb h hr => ⟨h.1, hr⟩)), (fun h => absurd rfl h), trivial⟩ ⟨?_, ?_, ?_, ?_, ?_, ?_, ?_, ?_, ?_, ?_, ?_, ?_⟩
  · intro L a wx Q' hL hi H F hK
    try dsimp only at hi
    have h0 : a.tmps[0]? = some (.pointer (some ⟨cb, 0, none⟩)) := F 0 rfl
    have HI := Lib.hid hi
    clear H F hi hL
    go_wp2_with fail
    exact hK _ _ (Below.refl _ _) HI.out rfl
  · intro L a wx Q' hL hi H F hK
    try dsimp only at hi
    obtain ⟨_, h22, rfl⟩ := H 0 ⟨.data, by simp, rfl⟩ _ rfl
    replace h22 := h22 _ rfl
    have HI := Lib.hid hi
    clear H F hi hL
    go_wp2_with fail
    exact hK _ _ (Below.refl _ _) HI.out rfl
  · intro L a wx Q' hL hi H F hK
    try dsimp only at hi
    obtain ⟨_, h23, rfl⟩ := H 1 ⟨.data, by simp, rfl⟩ _ rfl
    replace h23 := h23 _ rfl
    have HI := Lib.hid hi
    clear H F hi hL
    go_wp2_with fail
    exact hK _ _ (Below.refl _ _) HI.out rfl
  · intro L a wx Q' hL hi H F hK
    try dsimp only at hi
    obtain ⟨_, h24, rfl⟩ := H 2 ⟨.data, by simp, rfl⟩ _ rfl
    replace h24 := h24 _ rfl
    have HI := Lib.hid hi
    clear H F hi hL
    have kq0 : wx.cell? ⟨cb, 2, none⟩ = some (.map (some mb)) := (Whole.under HI.out.1 HC1.out (Whole.lt HC1.out)).cell 2
    go_wp2_with fail
    exact hK _ _ (Below.refl _ _) HI.out rfl
  · intro L a wx Q' hL hi H F hK
    try dsimp only at hi
    have h10 : a.tmps[10]? = some (.pointer (some ⟨w.heap.size + 1, 0, none⟩)) := F 10 rfl
    have HI := Lib.hid hi
    clear H F hi hL
    have kq0 : wx.cell? ⟨w.heap.size + 1, 0, none⟩ = some (.int .i64 k.a) := (Whole.under HI.out.1 HKB.out (Whole.lt HKB.out)).cell 0
    have kq1 : wx.cell? ⟨w.heap.size + 1, 1, none⟩ = some (.int .i64 k.b) := (Whole.under HI.out.1 HKB.out (Whole.lt HKB.out)).cell 1
    have kq2 : wx.cell? ⟨w.heap.size + 1, 2, none⟩ = some (.int .i64 k.c) := (Whole.under HI.out.1 HKB.out (Whole.lt HKB.out)).cell 2
    go_wp2_with fail
    exact hK _ _ (Below.refl _ _) HI.out rfl
  · intro L a wx Q' hL hi H F hK
    try dsimp only at hi
    obtain ⟨_, h25, rfl⟩ := H 3 ⟨.data, by simp, rfl⟩ _ rfl
    replace h25 := h25 _ rfl
    obtain ⟨_, h26, rfl⟩ := H 4 ⟨.data, by simp, rfl⟩ _ rfl
    replace h26 := h26 _ rfl
    have HI := Lib.hid hi
    clear H F hi hL
    have q : (Instr.lookup 57 (.map (some mb)) (.agg #[.int .i64 k.a, .int .i64 k.b, .int .i64 k.c]) true).run Try.prog wx = .ok (.tuple #[.agg #[.int .u32 0, .int .u32 0, .int .u32 0, .bool false, .int .i64 0], .bool false]) wx := by
      have q0 := MapAt.look_none true (HC0.out.under HI.out.1).map keyed41 Try.underlying57 (zero46 wx) (Key.keyOf HK.out) (ents_none HH.out)
      rw [if_pos rfl] at q0
      exact q0
    go_wp2_with fail
    exact hK _ _ (Below.refl _ _) HI.out rfl
  · intro L a wx Q' hL hi H F hK
    try dsimp only at hi
    obtain ⟨_, h27, rfl⟩ := H 5 ⟨.data, by simp, rfl⟩ _ rfl
    replace h27 := h27 _ rfl
    have HI := Lib.hid hi
    clear H F hi hL
    go_wp2_with fail
    exact hK _ _ (Below.refl _ _) HI.out rfl
  · intro L a wx Q' hL hi H F hK
    try dsimp only at hi
    obtain ⟨_, h21, rfl⟩ := H 6 ⟨.data, by simp, rfl⟩ _ rfl
    replace h21 := h21 _ rfl
    have HI := Lib.hid hi
    clear H F hi hL
    go_wp2_with fail
    exact hK _ _ (Below.refl _ _) HI.out rfl
  · intro L a wx Q' hL hi H F hK
    try dsimp only at hi
    obtain ⟨_, h21, rfl⟩ := H 6 ⟨.data, by simp, rfl⟩ _ rfl
    replace h21 := h21 _ rfl
    have HI := Lib.hid hi
    clear H F hi hL
    go_wp2_with fail
    exact hK _ _ (Below.refl _ _) HI.out rfl
  · intro L a wx Q' hL hi H F hK
    try dsimp only at hi
    have HI := Lib.hid hi
    clear H F hi
    have HE := Lib.hid (HI.out.2.1 hL)
    clear hL
    go_wp2_with fail
    have hn := Whole.new wx 46 #[.int .u32 0, .int .u32 0, .int .u32 0, .bool false, .int .i64 0]
    rw [HE.out] at hn
    exact hK _ _ ((Below.refl _ _).alloc (Nat.le_refl _) _) ⟨HI.out.1.alloc (by rw [HE.out]; exact Nat.le_refl _) _, fun h => by simp [upd] at h, fun _ => by rw [World.size_alloc, HE.out]⟩ ⟨by rw [HE.out], _, hn, rfl⟩
  · intro L a wx Q' hL hi H F hK
    try dsimp only at hi
    obtain ⟨_, h28, rfl⟩ := H 7 ⟨.data, by simp, rfl⟩ _ rfl
    replace h28 := h28 _ rfl
    obtain ⟨v11, h11, hv11⟩ := H 9 ⟨.data, by simp, rfl⟩ _ rfl
    replace h11 := h11 _ rfl
    have HV11 := Lib.hid hv11
    clear hv11
    have HI := Lib.hid hi
    clear H F hi hL
    obtain ⟨rfl, cs, hcs, hsz⟩ := HV11.out
    clear HV11
    have HCS := Lib.hid hcs
    have HSZ := Lib.hid hsz
    clear hcs hsz
    refine wpList_store_blk rfl 46 _ _ rfl w1.heap.size 0 (.agg #[.int .u32 0, .int .u32 0, .int .u32 0, .bool false, .int .i64 0]) (by simp [Act.eval, *]) (by simp [Act.eval, *]) 46 _ HCS.out (by rw [HSZ.out]; simp [Value.cells]) size46 rfl ?_
    intro w2 S2 W2
    rw [splice_all _ _ (by rw [HSZ.out]; rfl)] at W2
    exact hK undef w2 ⟨_, W2, rfl⟩ ⟨HI.out.1.trans (S2.below (Nat.le_refl _)), fun h => by rw [S2.size]; exact HI.out.2.1 h, fun h => by rw [S2.size]; exact HI.out.2.2 h⟩ W2
  · intro a wx hl L hi hL Q' hK
    try dsimp only at hi
    have HB := Lib.hid hi
    clear hi hL
    obtain ⟨_, rfl, _, rfl, _, rfl, _, rfl, _, rfl, _, rfl, _, rfl, _, rfl, _, rfl, u11, hu11, un10, hun10, rfl⟩ := hl
    have HU11 := Lib.hid hu11
    clear hu11
    have HUn10 := Lib.hid hun10
    clear hun10
    simp only [List.setIfInBounds_toArray, List.set_cons_zero, List.set_cons_succ]
    skip
    obtain ⟨rfl, -⟩ := HU11.out
    have HDX := Lib.hid HUn10.out
    clear HU11 HUn10
    have HBX := Lib.hid HB.out.1
    clear HB
    have H8X := Lib.hid (Whole.under HBX.out H8.out (Whole.lt H8.out))
    have HCX := Lib.hid (show Whole wx cb 62 #[.int .i64 s.size, .int .i64 s.seq, .map (some mb), v, .int .i64 s.h, .int .i64 s.m, .int .i64 s.e, .int .i64 s.r] from Whole.under HBX.out HC1.out (Whole.lt HC1.out))
    go_wp2_with fail
    refine wp_region_last (fun w w' => Below w.heap.size w w') [some 32, some 33, some 34, some 35, some 36, some 37, some 38, some 39, some 40] [isV (.pointer (some ⟨cb, 0, none⟩)), isV (.pointer (some ⟨cb, 0, none⟩)), isV (.pointer (some ⟨cb, 4, none⟩)), isV (.pointer (some ⟨cb, 5, none⟩)), isV (.int .i64 s.m), isV (.int .i64 (s.m + 1)), isV (.pointer (some ⟨cb, 0, none⟩)), isV (.pointer (some ⟨cb, 4, none⟩)), isV (.pointer (some ⟨cb, 5, none⟩))] (fun _ w' => Below wx.heap.size wx w') 9 (by kernel_rfl) (by kernel_rfl) (by kernel_rfl) rfl (by decide) rfl rfl ((Below.refl _ _).drew) ⟨lasts_is _, lasts_is _, lasts_is _, lasts_is _, lasts_is _, lasts_is _, lasts_is _, lasts_is _, lasts_is _, trivial⟩ ⟨(fun _ => lastsR_is _), (fun _ => lastsR_is _), (fun _ => lastsR_is _), (fun _ => lastsR_is _), (fun _ => lastsR_is _), (fun _ => lastsR_is _), (fun _ => lastsR_is _), (fun _ => lastsR_is _), (fun _ => lastsR_is _), trivial⟩ ⟨?_, ?_, ?_, ?_, ?_, ?_, ?_, ?_, ?_, ?_⟩
    · intro L a wy Q' hL hi H F hK
      try dsimp only at hi
      have h0 : a.tmps[0]? = some (.pointer (some ⟨cb, 0, none⟩)) := F 0 rfl
      have HI := Lib.hid hi
      clear H F hi hL
      go_wp2_with fail
      exact hK _ _ (Below.refl _ _) HI.out rfl
    · intro L a wy Q' hL hi H F hK
      try dsimp only at hi
      obtain ⟨_, h32, rfl⟩ := H 0 ⟨.data, by simp, rfl⟩ _ rfl
      replace h32 := h32 _ rfl
      have HI := Lib.hid hi
      clear H F hi hL
      go_wp2_with fail
      exact hK _ _ (Below.refl _ _) HI.out rfl
    · intro L a wy Q' hL hi H F hK
      try dsimp only at hi
      obtain ⟨_, h33, rfl⟩ := H 1 ⟨.data, by simp, rfl⟩ _ rfl
      replace h33 := h33 _ rfl
      have HI := Lib.hid hi
      clear H F hi hL
      go_wp2_with fail
      exact hK _ _ (Below.refl _ _) HI.out rfl
    · intro L a wy Q' hL hi H F hK
      try dsimp only at hi
      obtain ⟨_, h34, rfl⟩ := H 2 ⟨.data, by simp, rfl⟩ _ rfl
      replace h34 := h34 _ rfl
      have HI := Lib.hid hi
      clear H F hi hL
      go_wp2_with fail
      exact hK _ _ (Below.refl _ _) HI.out rfl
    · intro L a wy Q' hL hi H F hK
      try dsimp only at hi
      obtain ⟨_, h35, rfl⟩ := H 3 ⟨.data, by simp, rfl⟩ _ rfl
      replace h35 := h35 _ rfl
      have HI := Lib.hid hi
      clear H F hi hL
      have kq0 : wy.cell? ⟨cb, 5, none⟩ = some (.int .i64 s.m) := (Whole.under HI.out HCX.out (Whole.lt HCX.out)).cell 5
      go_wp2_with fail
      exact hK _ _ (Below.refl _ _) HI.out rfl
    · intro L a wy Q' hL hi H F hK
      try dsimp only at hi
      obtain ⟨_, h36, rfl⟩ := H 4 ⟨.data, by simp, rfl⟩ _ rfl
      replace h36 := h36 _ rfl
      have HI := Lib.hid hi
      clear H F hi hL
      go_wp2_with fail
      exact hK _ _ (Below.refl _ _) HI.out rfl
    · intro L a wy Q' hL hi H F hK
      try dsimp only at hi
      obtain ⟨_, h32, rfl⟩ := H 0 ⟨.data, by simp, rfl⟩ _ rfl
      replace h32 := h32 _ rfl
      have HI := Lib.hid hi
      clear H F hi hL
      go_wp2_with fail
      exact hK _ _ (Below.refl _ _) HI.out rfl
    · intro L a wy Q' hL hi H F hK
      try dsimp only at hi
      obtain ⟨_, h38, rfl⟩ := H 6 ⟨.data, by simp, rfl⟩ _ rfl
      replace h38 := h38 _ rfl
      have HI := Lib.hid hi
      clear H F hi hL
      go_wp2_with fail
      exact hK _ _ (Below.refl _ _) HI.out rfl
    · intro L a wy Q' hL hi H F hK
      try dsimp only at hi
      obtain ⟨_, h39, rfl⟩ := H 7 ⟨.data, by simp, rfl⟩ _ rfl
      replace h39 := h39 _ rfl
      have HI := Lib.hid hi
      clear H F hi hL
      go_wp2_with fail
      exact hK _ _ (Below.refl _ _) HI.out rfl
    · intro a wy hl L hi hL Q' hK
      try dsimp only at hi
      have HB := Lib.hid hi
      clear hi hL
      obtain ⟨_, rfl, _, rfl, _, rfl, _, rfl, _, rfl, _, rfl, _, rfl, _, rfl, _, rfl, rfl⟩ := hl
      simp only [List.setIfInBounds_toArray, List.set_cons_zero, List.set_cons_succ]
      go_wp2_with (first | (refine wpList_store_blk rfl 3 _ _ rfl cb 5 (.int .i64 (s.m + 1)) rfl rfl 62 _ (Whole.under HB.out HCX.out (Whole.lt HCX.out)) (by simp [Value.cells]) size3 rfl ?_; intro w5 S5 W5; have HW5 := Lib.hid (show Whole w5 cb 62 #[.int .i64 s.size, .int .i64 s.seq, .map (some mb), v, .int .i64 s.h, .int .i64 (s.m + 1), .int .i64 s.e, .int .i64 s.r] from W5); have HS5 := Lib.hid S5; clear S5 W5) | (refine wpList_store_blk rfl 46 _ _ rfl w.heap.size 0 (.agg #[.int .u32 0, .int .u32 0, .int .u32 0, .bool false, .int .i64 0]) rfl rfl 46 _ (HS5.out.whole (Whole.under HB.out H8X.out (Whole.lt H8X.out)) (by have := hlt; omega)) (by simp [Value.cells]) size46 rfl ?_; intro w6 S6 W6; have HW6 := Lib.hid (show Whole w6 w.heap.size 46 #[.int .u32 0, .int .u32 0, .int .u32 0, .bool false, .int .i64 0] from W6); have HS6 := Lib.hid S6; clear S6 W6))
      refine bodyPost_ret (v := .tuple #[.agg #[.int .u32 0, .int .u32 0, .int .u32 0, .bool false, .int .i64 0], .bool false]) ?_ rfl ⟨rfl, ?_⟩
      · have e0 : w6.cell? ⟨w.heap.size, 0, none⟩ = some (.int .u32 0) := HW6.out.cell 0
        have e1 : w6.cell? ⟨w.heap.size, 1, none⟩ = some (.int .u32 0) := HW6.out.cell 1
        have e2 : w6.cell? ⟨w.heap.size, 2, none⟩ = some (.int .u32 0) := HW6.out.cell 2
        have e3 : w6.cell? ⟨w.heap.size, 3, none⟩ = some (.bool false) := HW6.out.cell 3
        have e4 : w6.cell? ⟨w.heap.size, 4, none⟩ = some (.int .i64 0) := HW6.out.cell 4
        simp [results, Try.results21, go_sem, e0, e1, e2, e3, e4]
      · have hb5 : Below w.heap.size w wx := HB1.out.trans (HBX.out.mono HB1.out.size)
        have hlt' := hlt
        have ht : Tch w w6 (fun i => i = cb) := ((Tch.of_below hb5 (Nat.le_refl _)).trans ((Tch.of_below HB.out (Nat.le_refl _)).trans (Tch.of_sto HS5.out (F := fun i => i = cb) rfl))).trans' (Tch.of_sto HS6.out (F := fun i => i = w.heap.size) rfl) (fun i e => .inr (by omega))
        exact HC.out.same ht (HS6.out.whole HW5.out (by omega)) rfl ⟨HC.out.ok.lo, HC.out.ok.hi, HC.out.ok.len, HC.out.ok.nodup⟩
set_option maxRecDepth 100000 in
set_option maxHeartbeats 4000000 in
theorem find_hit (w : World) (cb : Nat) (F : Nat → Prop) (s : St) (k : Key) (h : Cache w cb F s) (hc : s.Cnt 1000000) (hk : k.ok) (d : Dec) (hin : (k, d) ∈ s.D) :
    Calls Try.prog 21 #[.pointer (some ⟨cb, 0, none⟩), .int .i64 k.a, .int .i64 k.b, .int .i64 k.c] w fun e w' => e = .returned (.tuple #[.agg #[.int .u32 d.allowed, .int .u32 d.auditAllow, .int .u32 d.auditDeny, .bool d.permissive, .int .i64 d.seq], .bool true]) ∧ Did w w' cb F (s.hit k d) := by
  obtain ⟨mb, v, h⟩ := h
  have hlo := h.ok.lo
  have HC := Lib.hid h
  have HW := Lib.hid (show Whole w cb 62 #[.int .i64 s.size, .int .i64 s.seq, .map (some mb), v, .int .i64 s.h, .int .i64 s.m, .int .i64 s.e, .int .i64 s.r] from h.blk)
  have hx0 := hc.h0
  have hx1 := hc.h1
  have HK := Lib.hid hk
  have HH := Lib.hid hin
  clear hk hin
  clear h hc
  go_enter Try.func21, Try.ntmps21
  go_wp2_with (first | (go_at_call 33; go_must (refine (made_yes _ cb s.size _ _ _ _ _ _ _ (HW.out.alloc _) (by omega)).mono ?_; rintro e w' ⟨rfl, rfl⟩)) | (refine wpList_store_blk rfl 41 _ _ rfl (w.heap.size + 1) 0 (.agg #[.int .i64 k.a, .int .i64 k.b, .int .i64 k.c]) rfl rfl 41 _ (whole_two w _ _ _) (by simp [Value.cells]) sz41 rfl ?_; intro w1 S1 W1; have HS1 := Lib.hid S1; have HKB := Lib.hid (show Whole w1 (w.heap.size + 1) 41 #[.int .i64 k.a, .int .i64 k.b, .int .i64 k.c] from W1); clear S1 W1))
  have HB1 := Lib.hid (show Below w.heap.size w w1 from (((Below.refl _ w).alloc (Nat.le_refl _) _).alloc (by simp) _).trans (HS1.out.below (by omega)))
  have HC0 := Lib.hid (HC.out.under HB1.out)
  have HC1 := Lib.hid (show Whole w1 cb 62 #[.int .i64 s.size, .int .i64 s.seq, .map (some mb), v, .int .i64 s.h, .int .i64 s.m, .int .i64 s.e, .int .i64 s.r] from HC0.out.blk)
  have hlt := HC.out.blk.lt
  have H8 := Lib.hid (HS1.out.whole ((Whole.new w 46 #[.int .u32 0, .int .u32 0, .int .u32 0, .bool false, .int .i64 0]).alloc _) (by omega))
  refine wp_region_last (fun _ w' => ∃ cs, Whole w' w1.heap.size 46 cs ∧ cs.size = 5) [some 22, some 23, some 24, some 25, some 26, some 27, some 21, some 28, some 29, some 11, none] [isV (.pointer (some ⟨cb, 0, none⟩)), isV (.pointer (some ⟨cb, 0, none⟩)), isV (.pointer (some ⟨cb, 2, none⟩)), isV (.map (some mb)), isV (.agg #[.int .i64 k.a, .int .i64 k.b, .int .i64 k.c]), isV (.tuple #[.agg #[.int .u32 d.allowed, .int .u32 d.auditAllow, .int .u32 d.auditDeny, .bool d.permissive, .int .i64 d.seq], .bool true]), isV (.tuple #[.agg #[.int .u32 d.allowed, .int .u32 d.auditAllow, .int .u32 d.auditDeny, .bool d.permissive, .int .i64 d.seq], .bool true]), isV (.agg #[.int .u32 d.allowed, .int .u32 d.auditAllow, .int .u32 d.auditDeny, .bool d.permissive, .int .i64 d.seq]), isV (.bool true), fun u w' => u = .pointer (some ⟨w1.heap.size, 0, none⟩) ∧ ∃ cs, Whole w' w1.heap.size 46 cs ∧ cs.size = 5, fun _ w' => Whole w' w1.heap.size 46 #[.int .u32 d.allowed, .int .u32 d.auditAllow, .int .u32 d.auditDeny, .bool d.permissive, .int .i64 d.seq]] (fun L w' => Below w1.heap.size w1 w' ∧ (L 9 = false → w'.heap.size = w1.heap.size) ∧ (L 9 = true → w'.heap.size = w1.heap.size + 1)) 10 (by kernel_rfl) (by kernel_rfl) (by kernel_rfl) rfl (by decide) rfl rfl (⟨(Below.refl _ _).drew, fun _ => rfl, fun h => by cases h⟩) ⟨lasts_is _, lasts_is _, lasts_is _, lasts_is _, lasts_is _, lasts_is _, lasts_is _, lasts_is _, lasts_is _, (fun u wa wb ⟨h1, cs, h2, h3⟩ hb => ⟨h1, cs, Whole.under hb h2 (Whole.lt h2), h3⟩), (fun u wa wb h hb => Whole.under hb h (Whole.lt h)), trivial⟩ ⟨(fun _ => lastsR_is _), (fun _ => lastsR_is _), (fun _ => lastsR_is _), (fun _ => lastsR_is _), (fun _ => lastsR_is _), (fun _ => lastsR_is _), (fun _ => lastsR_is _), (fun _ => lastsR_is _), (fun _ => lastsR_is _), (fun _ => (fun u wa wb h hr => ⟨h.1, hr⟩)), (fun h => absurd rfl h), trivial⟩ ⟨?_, ?_, ?_, ?_, ?_, ?_, ?_, ?_, ?_, ?_, ?_, ?_⟩
  · intro L a wx Q' hL hi H F hK
    try dsimp only at hi
    have h0 : a.tmps[0]? = some (.pointer (some ⟨cb, 0, none⟩)) := F 0 rfl
    have HI := Lib.hid hi
    clear H F hi hL
    go_wp2_with fail
    exact hK _ _ (Below.refl _ _) HI.out rfl
  · intro L a wx Q' hL hi H F hK
    try dsimp only at hi
    obtain ⟨_, h22, rfl⟩ := H 0 ⟨.data, by simp, rfl⟩ _ rfl
    replace h22 := h22 _ rfl
    have HI := Lib.hid hi
    clear H F hi hL
    go_wp2_with fail
    exact hK _ _ (Below.refl _ _) HI.out rfl
  · intro L a wx Q' hL hi H F hK
    try dsimp only at hi
    obtain ⟨_, h23, rfl⟩ := H 1 ⟨.data, by simp, rfl⟩ _ rfl
    replace h23 := h23 _ rfl
    have HI := Lib.hid hi
    clear H F hi hL
    go_wp2_with fail
    exact hK _ _ (Below.refl _ _) HI.out rfl
  · intro L a wx Q' hL hi H F hK
    try dsimp only at hi
    obtain ⟨_, h24, rfl⟩ := H 2 ⟨.data, by simp, rfl⟩ _ rfl
    replace h24 := h24 _ rfl
    have HI := Lib.hid hi
    clear H F hi hL
    have kq0 : wx.cell? ⟨cb, 2, none⟩ = some (.map (some mb)) := (Whole.under HI.out.1 HC1.out (Whole.lt HC1.out)).cell 2
    go_wp2_with fail
    exact hK _ _ (Below.refl _ _) HI.out rfl
  · intro L a wx Q' hL hi H F hK
    try dsimp only at hi
    have h10 : a.tmps[10]? = some (.pointer (some ⟨w.heap.size + 1, 0, none⟩)) := F 10 rfl
    have HI := Lib.hid hi
    clear H F hi hL
    have kq0 : wx.cell? ⟨w.heap.size + 1, 0, none⟩ = some (.int .i64 k.a) := (Whole.under HI.out.1 HKB.out (Whole.lt HKB.out)).cell 0
    have kq1 : wx.cell? ⟨w.heap.size + 1, 1, none⟩ = some (.int .i64 k.b) := (Whole.under HI.out.1 HKB.out (Whole.lt HKB.out)).cell 1
    have kq2 : wx.cell? ⟨w.heap.size + 1, 2, none⟩ = some (.int .i64 k.c) := (Whole.under HI.out.1 HKB.out (Whole.lt HKB.out)).cell 2
    go_wp2_with fail
    exact hK _ _ (Below.refl _ _) HI.out rfl
  · intro L a wx Q' hL hi H F hK
    try dsimp only at hi
    obtain ⟨_, h25, rfl⟩ := H 3 ⟨.data, by simp, rfl⟩ _ rfl
    replace h25 := h25 _ rfl
    obtain ⟨_, h26, rfl⟩ := H 4 ⟨.data, by simp, rfl⟩ _ rfl
    replace h26 := h26 _ rfl
    have HI := Lib.hid hi
    clear H F hi hL
    have q : (Instr.lookup 57 (.map (some mb)) (.agg #[.int .i64 k.a, .int .i64 k.b, .int .i64 k.c]) true).run Try.prog wx = .ok (.tuple #[.agg #[.int .u32 d.allowed, .int .u32 d.auditAllow, .int .u32 d.auditDeny, .bool d.permissive, .int .i64 d.seq], .bool true]) wx := by
      have q0 := MapAt.look_some true (HC0.out.under HI.out.1).map keyed41 Try.underlying57 (Key.keyOf HK.out) (ents_mem HH.out)
      rw [if_pos rfl] at q0
      exact q0
    go_wp2_with fail
    exact hK _ _ (Below.refl _ _) HI.out rfl
  · intro L a wx Q' hL hi H F hK
    try dsimp only at hi
    obtain ⟨_, h27, rfl⟩ := H 5 ⟨.data, by simp, rfl⟩ _ rfl
    replace h27 := h27 _ rfl
    have HI := Lib.hid hi
    clear H F hi hL
    go_wp2_with fail
    exact hK _ _ (Below.refl _ _) HI.out rfl
  · intro L a wx Q' hL hi H F hK
    try dsimp only at hi
    obtain ⟨_, h21, rfl⟩ := H 6 ⟨.data, by simp, rfl⟩ _ rfl
    replace h21 := h21 _ rfl
    have HI := Lib.hid hi
    clear H F hi hL
    go_wp2_with fail
    exact hK _ _ (Below.refl _ _) HI.out rfl
  · intro L a wx Q' hL hi H F hK
    try dsimp only at hi
    obtain ⟨_, h21, rfl⟩ := H 6 ⟨.data, by simp, rfl⟩ _ rfl
    replace h21 := h21 _ rfl
    have HI := Lib.hid hi
    clear H F hi hL
    go_wp2_with fail
    exact hK _ _ (Below.refl _ _) HI.out rfl
  · intro L a wx Q' hL hi H F hK
    try dsimp only at hi
    have HI := Lib.hid hi
    clear H F hi
    have HE := Lib.hid (HI.out.2.1 hL)
    clear hL
    go_wp2_with fail
    have hn := Whole.new wx 46 #[.int .u32 0, .int .u32 0, .int .u32 0, .bool false, .int .i64 0]
    rw [HE.out] at hn
    exact hK _ _ ((Below.refl _ _).alloc (Nat.le_refl _) _) ⟨HI.out.1.alloc (by rw [HE.out]; exact Nat.le_refl _) _, fun h => by simp [upd] at h, fun _ => by rw [World.size_alloc, HE.out]⟩ ⟨by rw [HE.out], _, hn, rfl⟩
  · intro L a wx Q' hL hi H F hK
    try dsimp only at hi
    obtain ⟨_, h28, rfl⟩ := H 7 ⟨.data, by simp, rfl⟩ _ rfl
    replace h28 := h28 _ rfl
    obtain ⟨v11, h11, hv11⟩ := H 9 ⟨.data, by simp, rfl⟩ _ rfl
    replace h11 := h11 _ rfl
    have HV11 := Lib.hid hv11
    clear hv11
    have HI := Lib.hid hi
    clear H F hi hL
    obtain ⟨rfl, cs, hcs, hsz⟩ := HV11.out
    clear HV11
    have HCS := Lib.hid hcs
    have HSZ := Lib.hid hsz
    clear hcs hsz
    refine wpList_store_blk rfl 46 _ _ rfl w1.heap.size 0 (.agg #[.int .u32 d.allowed, .int .u32 d.auditAllow, .int .u32 d.auditDeny, .bool d.permissive, .int .i64 d.seq]) (by simp [Act.eval, *]) (by simp [Act.eval, *]) 46 _ HCS.out (by rw [HSZ.out]; simp [Value.cells]) size46 rfl ?_
    intro w2 S2 W2
    rw [splice_all _ _ (by rw [HSZ.out]; rfl)] at W2
    exact hK undef w2 ⟨_, W2, rfl⟩ ⟨HI.out.1.trans (S2.below (Nat.le_refl _)), fun h => by rw [S2.size]; exact HI.out.2.1 h, fun h => by rw [S2.size]; exact HI.out.2.2 h⟩ W2
  · intro a wx hl L hi hL Q' hK
    try dsimp only at hi
    have HB := Lib.hid hi
    clear hi hL
    obtain ⟨_, rfl, _, rfl, _, rfl, _, rfl, _, rfl, _, rfl, _, rfl, _, rfl, _, rfl, u11, hu11, un10, hun10, rfl⟩ := hl
    have HU11 := Lib.hid hu11
    clear hu11
    have HUn10 := Lib.hid hun10
    clear hun10
    simp only [List.setIfInBounds_toArray, List.set_cons_zero, List.set_cons_succ]
    skip
    obtain ⟨rfl, -⟩ := HU11.out
    have HDX := Lib.hid HUn10.out
    clear HU11 HUn10
    have HBX := Lib.hid HB.out.1
    clear HB
    have H8X := Lib.hid (Whole.under HBX.out H8.out (Whole.lt H8.out))
    have HCX := Lib.hid (show Whole wx cb 62 #[.int .i64 s.size, .int .i64 s.seq, .map (some mb), v, .int .i64 s.h, .int .i64 s.m, .int .i64 s.e, .int .i64 s.r] from Whole.under HBX.out HC1.out (Whole.lt HC1.out))
    go_wp2_with fail
    refine wp_region_last (fun w w' => Below w.heap.size w w') [some 42, some 43, some 44, some 45, some 46, some 47, some 48, some 49, some 50] [isV (.pointer (some ⟨cb, 0, none⟩)), isV (.pointer (some ⟨cb, 0, none⟩)), isV (.pointer (some ⟨cb, 4, none⟩)), isV (.pointer (some ⟨cb, 4, none⟩)), isV (.int .i64 s.h), isV (.int .i64 (s.h + 1)), isV (.pointer (some ⟨cb, 0, none⟩)), isV (.pointer (some ⟨cb, 4, none⟩)), isV (.pointer (some ⟨cb, 4, none⟩))] (fun _ w' => Below wx.heap.size wx w') 9 (by kernel_rfl) (by kernel_rfl) (by kernel_rfl) rfl (by decide) rfl rfl ((Below.refl _ _).drew) ⟨lasts_is _, lasts_is _, lasts_is _, lasts_is _, lasts_is _, lasts_is _, lasts_is _, lasts_is _, lasts_is _, trivial⟩ ⟨(fun _ => lastsR_is _), (fun _ => lastsR_is _), (fun _ => lastsR_is _), (fun _ => lastsR_is _), (fun _ => lastsR_is _), (fun _ => lastsR_is _), (fun _ => lastsR_is _), (fun _ => lastsR_is _), (fun _ => lastsR_is _), trivial⟩ ⟨?_, ?_, ?_, ?_, ?_, ?_, ?_, ?_, ?_, ?_⟩
    · intro L a wy Q' hL hi H F hK
      try dsimp only at hi
      have h0 : a.tmps[0]? = some (.pointer (some ⟨cb, 0, none⟩)) := F 0 rfl
      have HI := Lib.hid hi
      clear H F hi hL
      go_wp2_with fail
      exact hK _ _ (Below.refl _ _) HI.out rfl
    · intro L a wy Q' hL hi H F hK
      try dsimp only at hi
      obtain ⟨_, h42, rfl⟩ := H 0 ⟨.data, by simp, rfl⟩ _ rfl
      replace h42 := h42 _ rfl
      have HI := Lib.hid hi
      clear H F hi hL
      go_wp2_with fail
      exact hK _ _ (Below.refl _ _) HI.out rfl
    · intro L a wy Q' hL hi H F hK
      try dsimp only at hi
      obtain ⟨_, h43, rfl⟩ := H 1 ⟨.data, by simp, rfl⟩ _ rfl
      replace h43 := h43 _ rfl
      have HI := Lib.hid hi
      clear H F hi hL
      go_wp2_with fail
      exact hK _ _ (Below.refl _ _) HI.out rfl
    · intro L a wy Q' hL hi H F hK
      try dsimp only at hi
      obtain ⟨_, h44, rfl⟩ := H 2 ⟨.data, by simp, rfl⟩ _ rfl
      replace h44 := h44 _ rfl
      have HI := Lib.hid hi
      clear H F hi hL
      go_wp2_with fail
      exact hK _ _ (Below.refl _ _) HI.out rfl
    · intro L a wy Q' hL hi H F hK
      try dsimp only at hi
      obtain ⟨_, h45, rfl⟩ := H 3 ⟨.data, by simp, rfl⟩ _ rfl
      replace h45 := h45 _ rfl
      have HI := Lib.hid hi
      clear H F hi hL
      have kq0 : wy.cell? ⟨cb, 4, none⟩ = some (.int .i64 s.h) := (Whole.under HI.out HCX.out (Whole.lt HCX.out)).cell 4
      go_wp2_with fail
      exact hK _ _ (Below.refl _ _) HI.out rfl
    · intro L a wy Q' hL hi H F hK
      try dsimp only at hi
      obtain ⟨_, h46, rfl⟩ := H 4 ⟨.data, by simp, rfl⟩ _ rfl
      replace h46 := h46 _ rfl
      have HI := Lib.hid hi
      clear H F hi hL
      go_wp2_with fail
      exact hK _ _ (Below.refl _ _) HI.out rfl
    · intro L a wy Q' hL hi H F hK
      try dsimp only at hi
      obtain ⟨_, h42, rfl⟩ := H 0 ⟨.data, by simp, rfl⟩ _ rfl
      replace h42 := h42 _ rfl
      have HI := Lib.hid hi
      clear H F hi hL
      go_wp2_with fail
      exact hK _ _ (Below.refl _ _) HI.out rfl
    · intro L a wy Q' hL hi H F hK
      try dsimp only at hi
      obtain ⟨_, h48, rfl⟩ := H 6 ⟨.data, by simp, rfl⟩ _ rfl
      replace h48 := h48 _ rfl
      have HI := Lib.hid hi
      clear H F hi hL
      go_wp2_with fail
      exact hK _ _ (Below.refl _ _) HI.out rfl
    · intro L a wy Q' hL hi H F hK
      try dsimp only at hi
      obtain ⟨_, h49, rfl⟩ := H 7 ⟨.data, by simp, rfl⟩ _ rfl
      replace h49 := h49 _ rfl
      have HI := Lib.hid hi
      clear H F hi hL
      go_wp2_with fail
      exact hK _ _ (Below.refl _ _) HI.out rfl
    · intro a wy hl L hi hL Q' hK
      try dsimp only at hi
      have HB := Lib.hid hi
      clear hi hL
      obtain ⟨_, rfl, _, rfl, _, rfl, _, rfl, _, rfl, _, rfl, _, rfl, _, rfl, _, rfl, rfl⟩ := hl
      simp only [List.setIfInBounds_toArray, List.set_cons_zero, List.set_cons_succ]
      go_wp2_with (first | (refine wpList_store_blk rfl 3 _ _ rfl cb 4 (.int .i64 (s.h + 1)) rfl rfl 62 _ (Whole.under HB.out HCX.out (Whole.lt HCX.out)) (by simp [Value.cells]) size3 rfl ?_; intro w5 S5 W5; have HW5 := Lib.hid (show Whole w5 cb 62 #[.int .i64 s.size, .int .i64 s.seq, .map (some mb), v, .int .i64 (s.h + 1), .int .i64 s.m, .int .i64 s.e, .int .i64 s.r] from W5); have HS5 := Lib.hid S5; clear S5 W5))
      have hb5 : Below w.heap.size w wx := HB1.out.trans (HBX.out.mono HB1.out.size)
      have hl1 : w.heap.size + 1 < w1.heap.size := HKB.out.lt
      have ht5 : Tch w w5 (fun i => i = cb) := (Tch.of_below hb5 (Nat.le_refl _)).trans ((Tch.of_below HB.out (Nat.le_refl _)).trans (Tch.of_sto HS5.out rfl))
      have HT5 := Lib.hid ht5
      have HB5 := Lib.hid HB.out
      have HKY5 := Lib.hid (HC.out.keys.tch ht5 fun g hg e => HC.out.far (by rw [hg, e]))
      have HK5 := Lib.hid (HS5.out.whole (Whole.under HB.out (Whole.under HBX.out HKB.out (Whole.lt HKB.out)) (by have := HBX.out.size; omega)) (show w.heap.size + 1 ≠ cb by omega))
      have HD5 := Lib.hid (HS5.out.whole (Whole.under HB.out HDX.out (Whole.lt HDX.out)) (show w1.heap.size ≠ cb by omega))
      have H85 := Lib.hid (HS5.out.whole (Whole.under HB.out H8X.out (Whole.lt H8X.out)) (show w.heap.size ≠ cb by omega))
      have HLEN := Lib.hid (show s.keys.length ≤ 90000 by have := HC.out.ok.len; have := HC.out.ok.hi; simp [St.keys]; omega)
      have HN1 := Lib.hid (show ¬ (w.heap.size = cb ∨ v.ownBlock = some w.heap.size) by
        rintro (e | e)
        · omega
        · have := HC.out.keys.lt _ e; omega)
      have HN2 := Lib.hid (show ¬ (w1.heap.size = cb ∨ v.ownBlock = some w1.heap.size) by
        rintro (e | e)
        · omega
        · have := HC.out.keys.lt _ e; omega)
      have HL1 := Lib.hid hl1
      clear hb5 ht5 HB hl1
      refine wp_region_last (fun w w' => Below w.heap.size w w') [some 51, some 52, some 53, some 54] [isV (.pointer (some ⟨cb, 0, none⟩)), isV (.pointer (some ⟨cb, 0, none⟩)), isV (.pointer (some ⟨cb, 3, none⟩)), isV (.agg #[.int .i64 k.a, .int .i64 k.b, .int .i64 k.c])] (fun _ w' => Below w5.heap.size w5 w') 4 (by kernel_rfl) (by kernel_rfl) (by kernel_rfl) rfl (by decide) rfl rfl ((Below.refl _ _).drew) ⟨lasts_is _, lasts_is _, lasts_is _, lasts_is _, trivial⟩ ⟨(fun _ => lastsR_is _), (fun _ => lastsR_is _), (fun _ => lastsR_is _), (fun _ => lastsR_is _), trivial⟩ ⟨?_, ?_, ?_, ?_, ?_⟩
      · intro L a wz Q' hL hi H F hK
        try dsimp only at hi
        have h0 : a.tmps[0]? = some (.pointer (some ⟨cb, 0, none⟩)) := F 0 rfl
        have HI := Lib.hid hi
        clear H F hi hL
        go_wp2_with fail
        exact hK _ _ (Below.refl _ _) HI.out rfl
      · intro L a wz Q' hL hi H F hK
        try dsimp only at hi
        obtain ⟨_, h51, rfl⟩ := H 0 ⟨.data, by simp, rfl⟩ _ rfl
        replace h51 := h51 _ rfl
        have HI := Lib.hid hi
        clear H F hi hL
        go_wp2_with fail
        exact hK _ _ (Below.refl _ _) HI.out rfl
      · intro L a wz Q' hL hi H F hK
        try dsimp only at hi
        obtain ⟨_, h52, rfl⟩ := H 1 ⟨.data, by simp, rfl⟩ _ rfl
        replace h52 := h52 _ rfl
        have HI := Lib.hid hi
        clear H F hi hL
        go_wp2_with fail
        exact hK _ _ (Below.refl _ _) HI.out rfl
      · intro L a wz Q' hL hi H F hK
        try dsimp only at hi
        have h10 : a.tmps[10]? = some (.pointer (some ⟨w.heap.size + 1, 0, none⟩)) := F 10 rfl
        have HI := Lib.hid hi
        clear H F hi hL
        have kq0 : wz.cell? ⟨w.heap.size + 1, 0, none⟩ = some (.int .i64 k.a) := (Whole.under HI.out HK5.out (Whole.lt HK5.out)).cell 0
        have kq1 : wz.cell? ⟨w.heap.size + 1, 1, none⟩ = some (.int .i64 k.b) := (Whole.under HI.out HK5.out (Whole.lt HK5.out)).cell 1
        have kq2 : wz.cell? ⟨w.heap.size + 1, 2, none⟩ = some (.int .i64 k.c) := (Whole.under HI.out HK5.out (Whole.lt HK5.out)).cell 2
        go_wp2_with fail
        exact hK _ _ (Below.refl _ _) HI.out rfl
      · intro a wz hl L hi hL Q' hK
        try dsimp only at hi
        have HB := Lib.hid hi
        clear hi hL
        obtain ⟨_, rfl, _, rfl, _, rfl, _, rfl, rfl⟩ := hl
        simp only [List.setIfInBounds_toArray, List.set_cons_zero, List.set_cons_succ]
        go_wp2_with (first | (go_at_call 35; go_must (refine (use_any _ cb _ _ _ v _ _ _ _ s.keys k (Whole.under HB.out HW5.out (Whole.lt HW5.out)) (HKY5.out.under HB.out) HLEN.out).mono ?_; rintro e w6 ⟨rfl, v', hw6, hk6, ho6, ht6⟩; have HD6 := Lib.hid (ht6.whole (Whole.under HB.out HD5.out (Whole.lt HD5.out)) HN2.out); have H86 := Lib.hid (ht6.whole (Whole.under HB.out H85.out (Whole.lt H85.out)) HN1.out); have HR := Lib.hid (And.intro hw6 (And.intro hk6 (And.intro ho6 ht6))); clear hw6 hk6 ho6 ht6; have m0 : w6.cell? ⟨w1.heap.size, 0, none⟩ = some (.int .u32 d.allowed) := HD6.out.cell 0; have m1 : w6.cell? ⟨w1.heap.size, 1, none⟩ = some (.int .u32 d.auditAllow) := HD6.out.cell 1; have m2 : w6.cell? ⟨w1.heap.size, 2, none⟩ = some (.int .u32 d.auditDeny) := HD6.out.cell 2; have m3 : w6.cell? ⟨w1.heap.size, 3, none⟩ = some (.bool d.permissive) := HD6.out.cell 3; have m4 : w6.cell? ⟨w1.heap.size, 4, none⟩ = some (.int .i64 d.seq) := HD6.out.cell 4; skip)) | (refine wpList_store_blk rfl 46 _ _ rfl w.heap.size 0 (.agg #[.int .u32 d.allowed, .int .u32 d.auditAllow, .int .u32 d.auditDeny, .bool d.permissive, .int .i64 d.seq]) rfl rfl 46 _ H86.out (by simp [Value.cells]) size46 rfl ?_; intro w7 S7 W7; have HW7 := Lib.hid (show Whole w7 w.heap.size 46 #[.int .u32 d.allowed, .int .u32 d.auditAllow, .int .u32 d.auditDeny, .bool d.permissive, .int .i64 d.seq] from W7); have HS7 := Lib.hid S7; clear S7 W7))
        clear m0 m1 m2 m3 m4
        refine bodyPost_ret (v := .tuple #[.agg #[.int .u32 d.allowed, .int .u32 d.auditAllow, .int .u32 d.auditDeny, .bool d.permissive, .int .i64 d.seq], .bool true]) ?_ rfl ⟨rfl, ?_⟩
        · have e0 : w7.cell? ⟨w.heap.size, 0, none⟩ = some (.int .u32 d.allowed) := HW7.out.cell 0
          have e1 : w7.cell? ⟨w.heap.size, 1, none⟩ = some (.int .u32 d.auditAllow) := HW7.out.cell 1
          have e2 : w7.cell? ⟨w.heap.size, 2, none⟩ = some (.int .u32 d.auditDeny) := HW7.out.cell 2
          have e3 : w7.cell? ⟨w.heap.size, 3, none⟩ = some (.bool d.permissive) := HW7.out.cell 3
          have e4 : w7.cell? ⟨w.heap.size, 4, none⟩ = some (.int .i64 d.seq) := HW7.out.cell 4
          simp [results, Try.results21, go_sem, e0, e1, e2, e3, e4]
        · obtain ⟨hw6, hk6, ho6, ht6⟩ := HR.out
          have hcb : F cb := (HC.out.foot _).2 (.inl rfl)
          have ht : Tch w w7 (fun i => i = cb ∨ v.ownBlock = some i) := ((HT5.out.mono fun i e => .inl (.inl e)).trans ((Tch.of_below HB.out (Nat.le_refl _)).trans ht6)).trans' (Tch.of_sto HS7.out (F := fun i => i = w.heap.size) rfl) (fun i e => .inr (by omega))
          have hkk : KeysAt w7 v' (k :: s.keys.erase k) := hk6.tch (Tch.of_sto HS7.out (F := fun i => i = w.heap.size) rfl) (fun g hg e => by
            have h1 := (hk6.far H86.out (by decide))
            exact h1 (by rw [hg, e]))
          have hin := HH.out
          refine HC.out.turn (ht.mono fun i e => .inl (e.elim (fun e => e ▸ hcb) fun e => (HC.out.foot _).2 (.inr (.inr e)))) (HS7.out.whole hw6 (by omega)) (by rw [hit_keys HC.out.ok]; exact hkk) ?_ ?_ (HC.out.ok.hit hin) (fun e => by cases e)
          · refine ho6.imp id fun ⟨_, g, h1, h2⟩ => ⟨g, h1, Nat.le_trans (Nat.le_trans HT5.out.size HB.out.size) h2⟩
          · exact (HC.out.map.kept (ht.block _ HC.out.map.lt (fun e => e.elim HC.out.ne HC.out.farm))).perm (ents_perm (rest_perm HC.out.ok.nodup hin))

end Go.Proofs.Ytcdhjcjdphnleaa
