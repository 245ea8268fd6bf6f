import Derived.Test.YtcdhjcjdphnleaaW
namespace Go.Proofs.Ytcdhjcjdphnleaa
open Go Go.WideMaps Go.RowKit

theorem whole_ne {x : World} {a b : Nat} {t t' : TypeId} {cs cs' : Array Value} (h : Whole x a t cs) (h' : Whole x b t' cs') (ht : t ≠ t') : a ≠ b := by
  intro e
  subst e
  have h2 := Eq.symm (Eq.trans (Eq.symm h) h')
  simp only [Option.some.injEq, Obj.cells.injEq] at h2
  exact ht h2.2.1.symm
theorem map_ne {x : World} {a b : Nat} {t : TypeId} {cs : Array Value} {P : Program} {k : TypeId} {E : List (Value × Value)} (h : MapAt x P k a E) (h' : Whole x b t cs) : a ≠ b := by
  obtain ⟨es, clock, hb, _⟩ := h
  intro e
  subst e
  unfold Whole at h'
  rw [h'] at hb
  cases hb
theorem map_keys {x : World} {a : Nat} {P : Program} {k : TypeId} {E : List (Value × Value)} {u : Value} {ks : List Key} (h : MapAt x P k a E) (h' : KeysAt x u ks) : u.ownBlock ≠ some a := by
  rcases h' with ⟨rfl, _⟩ | ⟨g', cap, cur, rfl, hg, _⟩
  · intro e; cases e
  · intro e
    have : g' = a := by simpa [Value.ownBlock] using e
    exact map_ne h hg this.symm

theorem map_keyed {w : World} {b : Nat} {D : List (Value × Value)} (h : MapAt w Try.prog 41 b D) {key val : Value} (hm : (key, val) ∈ D) : ∃ l, Go.keyOf Try.prog 41 key = some l := by
  obtain ⟨_, _, _, _, _, h4⟩ := h
  exact h4 (key, val) hm
/-- A cache in the midst of an insertion. -/
structure Mid (w : World) (cb mb kb : Nat) (v : Value) (k : Key) (d : Dec) (x : World) (cs : Array Value) (u : Value) (ks : List Key) (E : List (Value × Value)) : Prop where
  blk : Whole x cb 62 cs
  map : MapAt x Try.prog 41 mb E
  keys : KeysAt x u ks
  own : u.ownBlock = v.ownBlock ∨ ∃ g, u.ownBlock = some g ∧ w.heap.size ≤ g
  dec : Whole x w.heap.size 46 #[.int .u32 d.allowed, .int .u32 d.auditAllow, .int .u32 d.auditDeny, .bool d.permissive, .int .i64 d.seq]
  key : Whole x kb 41 #[.int .i64 k.a, .int .i64 k.b, .int .i64 k.c]
  far : u.ownBlock ≠ some kb
  tch : Tch w x (fun i => i = cb ∨ i = mb ∨ v.ownBlock = some i)

section
variable {w x y : World} {cb mb kb : Nat} {v u : Value} {k : Key} {d : Dec} {cs : Array Value} {ks : List Key} {E : List (Value × Value)}
theorem Mid.below (h : Mid w cb mb kb v k d x cs u ks E) (hb : Below x.heap.size x y) : Mid w cb mb kb v k d y cs u ks E :=
  ⟨Whole.under hb h.blk h.blk.lt, h.map.kept (hb.block _ h.map.lt), h.keys.under hb, h.own, Whole.under hb h.dec h.dec.lt, Whole.under hb h.key h.key.lt, h.far, h.tch.trans (Tch.of_below hb (Nat.le_refl _))⟩
theorem Mid.sto (h : Mid w cb mb kb v k d x cs u ks E) (hs : Sto x y cb) {cs' : Array Value} (hw : Whole y cb 62 cs') : Mid w cb mb kb v k d y cs' u ks E :=
  ⟨hw, h.map.kept (hs.block _ (map_ne h.map h.blk)), h.keys.tch (Tch.of_sto hs (F := fun i => i = cb) rfl) (fun _ hg e => h.keys.far h.blk (by decide) (by rw [hg, e])), h.own, hs.whole h.dec (whole_ne h.dec h.blk (by decide)), hs.whole h.key (whole_ne h.key h.blk (by decide)), h.far, h.tch.trans (Tch.of_sto hs (.inl rfl))⟩
theorem Mid.stoNew (h : Mid w cb mb kb v k d x cs u ks E) {g : Nat} (hs : Sto x y g) (h1 : g ≠ cb) (h2 : g ≠ mb) (h3 : u.ownBlock ≠ some g) (h4 : g ≠ w.heap.size) (h5 : g ≠ kb) (h6 : w.heap.size ≤ g) : Mid w cb mb kb v k d y cs u ks E :=
  ⟨hs.whole h.blk h1.symm, h.map.kept (hs.block _ h2.symm), h.keys.tch (Tch.of_sto hs (F := fun i => i = g) rfl) (fun _ hg e => h3 (by rw [hg, e])), h.own, hs.whole h.dec h4.symm, hs.whole h.key h5.symm, h.far, h.tch.trans' (Tch.of_sto hs (F := fun i => i = g) rfl) (fun i e => .inr (by omega))⟩
theorem Mid.turned {c0 c1 c2 c4 c5 c6 c7 : Value} {ks' : List Key} {f : Bool} (h : Mid w cb mb kb v k d x #[c0, c1, c2, u, c4, c5, c6, c7] u ks E) (ht : Turned x y cb c0 c1 c2 u c4 c5 c6 c7 ks' f) :
    ∃ u', Mid w cb mb kb v k d y #[c0, c1, c2, u', c4, c5, c6, c7] u' ks' E := by
  obtain ⟨u', hw, hk, ho, hT⟩ := ht
  have hN : ∀ i, i < x.heap.size → i ≠ cb → u.ownBlock ≠ some i → y.heap[i]? = x.heap[i]? := fun i hi h1 h2 => hT.block i hi (by rintro (e | e); exact h1 e; exact h2 e)
  refine ⟨u', hw, h.map.kept (hN _ h.map.lt (map_ne h.map h.blk) (map_keys h.map h.keys)), hk, ?_, (hN _ h.dec.lt (whole_ne h.dec h.blk (by decide)) (h.keys.far h.dec (by decide))).trans h.dec, (hN _ h.key.lt (whole_ne h.key h.blk (by decide)) h.far).trans h.key, ?_, ?_⟩
  · rcases ho with ho | ⟨_, g, ho, hg⟩
    · rw [ho]; exact h.own
    · exact .inr ⟨g, ho, Nat.le_trans h.tch.size hg⟩
  · rcases ho with ho | ⟨_, g, ho, hg⟩
    · rw [ho]; exact h.far
    · rw [ho]
      intro e
      have := h.key.lt
      cases e
      omega
  · refine h.tch.trans' hT ?_
    rintro i (e | e)
    · exact .inl (.inl e)
    · rcases h.own with ho | ⟨g, ho, hg⟩
      · exact .inl (.inr (.inr (by rw [← ho]; exact e)))
      · rw [ho] at e; cases e; exact .inr hg
theorem Mid.mapped {E' : List (Value × Value)} (h : Mid w cb mb kb v k d x cs u ks E) (hg : x.grownBy y (some mb)) (hm : MapAt y Try.prog 41 mb E') : Mid w cb mb kb v k d y cs u ks E' := by
  have hT : Tch x y (fun i => i = mb) := Tch.of_grown hg (fun g e => by cases e; rfl)
  refine ⟨hT.whole h.blk (map_ne h.map h.blk).symm, hm, h.keys.tch hT (fun _ hg e => map_keys h.map h.keys (by rw [hg, e])), h.own, hT.whole h.dec (map_ne h.map h.dec).symm, hT.whole h.key (map_ne h.map h.key).symm, h.far, h.tch.trans (hT.mono fun i e => .inl (.inr (.inl e)))⟩
theorem Mid.did {F : Nat → Prop} {s s' : St} (h : Mid w cb mb kb v k d x (s'.cells mb u) u s'.keys E) (hc : CacheAt w cb mb v F s) (hE : E.Perm (ents s'.D)) (hok : s'.Ok) (hne : s'.D ≠ []) : Did w x cb F s' :=
  hc.turn (h.tch.mono fun i hi => .inl ((hc.foot i).2 hi)) h.blk h.keys h.own (h.map.perm hE) hok (fun e => absurd e hne)
end

/-! ### What an insertion does -/
def St.put (s : St) (k : Key) (d : Dec) : St := { s with D := (k, d) :: rest s.D k }
def St.evict (s : St) : St := { s with D := s.D.dropLast, e := s.e + 1 }
theorem put_keys {s : St} (h : s.keys.Nodup) (k : Key) (d : Dec) : (s.put k d).keys = k :: s.keys.erase k := by
  show k :: (rest s.D k).map Prod.fst = _
  rw [rest_keys h]
  rfl
theorem rest_mem {D : List (Key × Dec)} {k : Key} : k ∉ (rest D k).map Prod.fst := by
  intro h
  obtain ⟨p, hp, he⟩ := List.mem_map.1 h
  have := (List.mem_filter.1 hp).2
  simp [he] at this
theorem nodup_put {s : St} (h : s.keys.Nodup) (k : Key) (d : Dec) : (s.put k d).keys.Nodup := by
  rw [put_keys h]
  refine List.nodup_cons.2 ⟨?_, h.erase k⟩
  rw [show s.keys.erase k = (rest s.D k).map Prod.fst from (rest_keys h k).symm]
  exact rest_mem
theorem St.Ok.putOld {s : St} (h : s.Ok) {k : Key} {d d0 : Dec} (hin : (k, d0) ∈ s.D) : (s.put k d).Ok := by
  refine ⟨h.lo, h.hi, ?_, nodup_put h.nodup k d⟩
  have := (rest_perm h.nodup hin).length_eq
  have h2 := h.len
  show (((k, d) :: rest s.D k).length : Int) ≤ s.size
  simp only [List.length_cons] at this ⊢
  omega
theorem St.Ok.putNew {s : St} (h : s.Ok) {k : Key} {d : Dec} (hlen : (s.D.length : Int) < s.size) : (s.put k d).Ok := by
  refine ⟨h.lo, h.hi, ?_, nodup_put h.nodup k d⟩
  have : (rest s.D k).length ≤ s.D.length := List.length_filter_le _ _
  show (((k, d) :: rest s.D k).length : Int) ≤ s.size
  simp only [List.length_cons]
  omega
theorem St.Ok.evict {s : St} (h : s.Ok) : s.evict.Ok := by
  refine ⟨h.lo, h.hi, ?_, ?_⟩
  · have := h.len
    show (s.D.dropLast.length : Int) ≤ s.size
    rw [List.length_dropLast]
    omega
  · have : s.evict.keys = s.keys.dropLast := by
      show s.D.dropLast.map Prod.fst = _
      rw [List.map_dropLast]
      rfl
    rw [this]
    exact h.nodup.sublist (List.dropLast_sublist _)

theorem insert_stale (w : World) (cb : Nat) (F : Nat → Prop) (s : St) (k : Key) (d : Dec) (h : Cache w cb F s) (hst : d.seq < s.seq) :
    Calls Try.prog 22 #[.pointer (some ⟨cb, 0, none⟩), .int .i64 k.a, .int .i64 k.b, .int .i64 k.c, .agg #[.int .u32 d.allowed, .int .u32 d.auditAllow, .int .u32 d.auditDeny, .bool d.permissive, .int .i64 d.seq]] w fun e w' => e = .returned (.int .i64 24) ∧ Below w.heap.size w w' := by
  obtain ⟨mb, v, h⟩ := h
  have hlo := h.ok.lo
  have HC := Lib.hid h
  have HW := Lib.hid (show Whole w cb 62 #[.int .i64 s.size, .int .i64 s.seq, .map (some mb), v, .int .i64 s.h, .int .i64 s.m, .int .i64 s.e, .int .i64 s.r] from h.blk)
  obtain ⟨wo, hwo⟩ : ∃ wo, wo = w.alloc (.cells #[.int .u32 d.allowed, .int .u32 d.auditAllow, .int .u32 d.auditDeny, .bool d.permissive, .int .i64 d.seq] 46) := ⟨_, rfl⟩
  have HWO := Lib.hid (show Whole wo cb 62 #[.int .i64 s.size, .int .i64 s.seq, .map (some mb), v, .int .i64 s.h, .int .i64 s.m, .int .i64 s.e, .int .i64 s.r] by rw [hwo]; exact HW.out.alloc _)
  have HDO := Lib.hid (show Whole wo w.heap.size 46 #[.int .u32 d.allowed, .int .u32 d.auditAllow, .int .u32 d.auditDeny, .bool d.permissive, .int .i64 d.seq] by rw [hwo]; exact Whole.new w 46 _)
  have HBO := Lib.hid (show Below w.heap.size w wo by rw [hwo]; exact (Below.refl _ w).alloc (Nat.le_refl _) _)
  clear h
  go_enter Try.func22, Try.ntmps22
  go_wp2_with (go_at_call 33; go_must (refine (made_yes _ cb s.size _ _ _ _ _ _ _ (HW.out.alloc _) (by omega)).mono ?_; rintro e w' ⟨rfl, rfl⟩))
  rw [← hwo]
  clear hwo
  refine wp_region_last (fun w w' => Below w.heap.size w w') [some 20, some 21, some 22, some 23, some 24, some 25, some 26] [isV (.pointer (some ⟨w.heap.size, 4, none⟩)), isV (.int .i64 d.seq), isV (.pointer (some ⟨cb, 0, none⟩)), isV (.pointer (some ⟨cb, 0, none⟩)), isV (.pointer (some ⟨cb, 1, none⟩)), isV (.int .i64 s.seq), isV (.bool true)] (fun _ w' => Below wo.heap.size wo w') 7 (by kernel_rfl) (by kernel_rfl) (by kernel_rfl) rfl (by decide) rfl rfl ((Below.refl _ _).drew) ⟨lasts_is _, lasts_is _, lasts_is _, lasts_is _, lasts_is _, lasts_is _, lasts_is _, trivial⟩ ⟨(fun _ => lastsR_is _), (fun _ => lastsR_is _), (fun _ => lastsR_is _), (fun _ => lastsR_is _), (fun _ => lastsR_is _), (fun _ => lastsR_is _), (fun _ => lastsR_is _), trivial⟩ ⟨?_, ?_, ?_, ?_, ?_, ?_, ?_, ?_⟩
  · intro L a wx Q' hL hi H F hK
    try dsimp only at hi
    have h9 : a.tmps[9]? = some (.pointer (some ⟨w.heap.size, 0, none⟩)) := F 9 rfl
    have HI := Lib.hid hi
    clear H F hi hL
    go_wp2_with fail
    exact hK _ _ (Below.refl _ _) HI.out rfl
  · intro L a wx Q' hL hi H F hK
    try dsimp only at hi
    obtain ⟨_, h20, rfl⟩ := H 0 ⟨.data, by simp, rfl⟩ _ rfl
    replace h20 := h20 _ rfl
    have HI := Lib.hid hi
    clear H F hi hL
    have kq0 : wx.cell? ⟨w.heap.size, 4, none⟩ = some (.int .i64 d.seq) := (Whole.under HI.out HDO.out (Whole.lt HDO.out)).cell 4
    go_wp2_with fail
    exact hK _ _ (Below.refl _ _) HI.out rfl
  · intro L a wx Q' hL hi H F hK
    try dsimp only at hi
    have h0 : a.tmps[0]? = some (.pointer (some ⟨cb, 0, none⟩)) := F 0 rfl
    have HI := Lib.hid hi
    clear H F hi hL
    go_wp2_with fail
    exact hK _ _ (Below.refl _ _) HI.out rfl
  · intro L a wx Q' hL hi H F hK
    try dsimp only at hi
    obtain ⟨_, h22, rfl⟩ := H 2 ⟨.data, by simp, rfl⟩ _ rfl
    replace h22 := h22 _ rfl
    have HI := Lib.hid hi
    clear H F hi hL
    go_wp2_with fail
    exact hK _ _ (Below.refl _ _) HI.out rfl
  · intro L a wx Q' hL hi H F hK
    try dsimp only at hi
    obtain ⟨_, h23, rfl⟩ := H 3 ⟨.data, by simp, rfl⟩ _ rfl
    replace h23 := h23 _ rfl
    have HI := Lib.hid hi
    clear H F hi hL
    go_wp2_with fail
    exact hK _ _ (Below.refl _ _) HI.out rfl
  · intro L a wx Q' hL hi H F hK
    try dsimp only at hi
    obtain ⟨_, h24, rfl⟩ := H 4 ⟨.data, by simp, rfl⟩ _ rfl
    replace h24 := h24 _ rfl
    have HI := Lib.hid hi
    clear H F hi hL
    have kq0 : wx.cell? ⟨cb, 1, none⟩ = some (.int .i64 s.seq) := (Whole.under HI.out HWO.out (Whole.lt HWO.out)).cell 1
    go_wp2_with fail
    exact hK _ _ (Below.refl _ _) HI.out rfl
  · intro L a wx Q' hL hi H F hK
    try dsimp only at hi
    obtain ⟨_, h21, rfl⟩ := H 1 ⟨.data, by simp, rfl⟩ _ rfl
    replace h21 := h21 _ rfl
    obtain ⟨_, h25, rfl⟩ := H 5 ⟨.data, by simp, rfl⟩ _ rfl
    replace h25 := h25 _ rfl
    have HI := Lib.hid hi
    clear H F hi hL
    go_wp2_with fail
    exact hK _ _ (Below.refl _ _) HI.out rfl
  · intro a wx hl L hi hL Q' hK
    try dsimp only at hi
    have HB := Lib.hid hi
    clear hi hL
    obtain ⟨_, rfl, _, rfl, _, rfl, _, rfl, _, rfl, _, rfl, _, rfl, rfl⟩ := hl
    simp only [List.setIfInBounds_toArray, List.set_cons_zero, List.set_cons_succ]
    skip
    go_wp2_with fail
    go_ret
    exact ⟨rfl, HBO.out.trans (HB.out.mono HBO.out.size)⟩

end Go.Proofs.Ytcdhjcjdphnleaa
