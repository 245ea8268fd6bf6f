import Derived.Test.YtcdhjcjdphnleaaT
namespace Go.Proofs.Ytcdhjcjdphnleaa
open Go Go.WideMaps Go.RowKit

/-- What a cache is: the decisions in the order of use, the last used one first; the counters. -/
structure St where
  size : Int
  seq : Int
  D : List (Key × Dec)
  h : Int
  m : Int
  e : Int
  r : Int

def ents (D : List (Key × Dec)) : List (Value × Value) := D.map fun p => (p.1.val, p.2.val)
def St.keys (s : St) : List Key := s.D.map Prod.fst
def St.cells (s : St) (mb : Nat) (v : Value) : Array Value := #[.int .i64 s.size, .int .i64 s.seq, .map (some mb), v, .int .i64 s.h, .int .i64 s.m, .int .i64 s.e, .int .i64 s.r]
structure St.Ok (s : St) : Prop where
  lo : 1 ≤ s.size
  hi : s.size ≤ 1024
  len : (s.D.length : Int) ≤ s.size
  nodup : s.keys.Nodup

/-- The cache in block cb; its blocks are those of F. -/
structure CacheAt (w : World) (cb mb : Nat) (v : Value) (F : Nat → Prop) (s : St) : Prop where
  blk : Whole w cb 62 (s.cells mb v)
  map : MapAt w Try.prog 41 mb (ents s.D)
  keys : KeysAt w v s.keys
  nil : s.D = [] → v = .slice none 0 0
  foot : ∀ i, F i ↔ (i = cb ∨ i = mb ∨ v.ownBlock = some i)
  ok : s.Ok

/-- Some cache there. -/
def Cache (w : World) (cb : Nat) (F : Nat → Prop) (s : St) : Prop := ∃ mb v, CacheAt w cb mb v F s

section
variable {w w' : World} {cb mb : Nat} {v : Value} {F G : Nat → Prop} {s : St}
theorem CacheAt.lt (h : CacheAt w cb mb v F s) : ∀ i, F i → i < w.heap.size := by
  intro i hi
  rcases (h.foot i).1 hi with rfl | rfl | hv
  · exact h.blk.lt
  · exact h.map.lt
  · exact h.keys.lt i hv
theorem CacheAt.tch (h : CacheAt w cb mb v F s) (ht : Tch w w' G) (hd : ∀ i, F i → ¬ G i) : CacheAt w' cb mb v F s :=
  ⟨ht.whole h.blk (hd _ ((h.foot _).2 (.inl rfl))), h.map.kept (ht.block _ h.map.lt (hd _ ((h.foot _).2 (.inr (.inl rfl))))), h.keys.tch ht fun _ hg => hd _ ((h.foot _).2 (.inr (.inr hg))), h.nil, h.foot, h.ok⟩
theorem CacheAt.under (hb : Below w.heap.size w w') (h : CacheAt w cb mb v F s) : CacheAt w' cb mb v F s := h.tch (G := fun _ => False) (Tch.of_below hb (Nat.le_refl _)) fun _ _ => id
theorem Cache.lt (h : Cache w cb F s) : ∀ i, F i → i < w.heap.size := let ⟨_, _, h⟩ := h; h.lt
theorem Cache.tch (h : Cache w cb F s) (ht : Tch w w' G) (hd : ∀ i, F i → ¬ G i) : Cache w' cb F s := let ⟨mb, v, h⟩ := h; ⟨mb, v, h.tch ht hd⟩
theorem Cache.under (hb : Below w.heap.size w w') (h : Cache w cb F s) : Cache w' cb F s := let ⟨mb, v, h⟩ := h; ⟨mb, v, h.under hb⟩
theorem Cache.drew (h : Cache w cb F s) : Cache w.drew cb F s := h.under ((Below.refl _ _).drew)
theorem CacheAt.ne (h : CacheAt w cb mb v F s) : mb ≠ cb := by
  obtain ⟨es, clock, hb, _⟩ := h.map
  intro e
  have h1 := h.blk
  unfold Whole at h1
  rw [e, h1] at hb
  cases hb
theorem CacheAt.far (h : CacheAt w cb mb v F s) : v.ownBlock ≠ some cb := h.keys.far h.blk (by decide)
theorem CacheAt.farm (h : CacheAt w cb mb v F s) : v.ownBlock ≠ some mb := by
  obtain ⟨es, clock, hb, _⟩ := h.map
  rcases h.keys with ⟨rfl, _⟩ | ⟨g', cap, cur, rfl, hg, _⟩
  · intro e; cases e
  · intro e
    have : g' = mb := by simpa [Value.ownBlock] using e
    subst this
    unfold Whole at hg
    rw [hg] at hb
    cases hb
end

/-- What an operation on a cache leaves. -/
def Did (w w' : World) (cb : Nat) (F : Nat → Prop) (s' : St) : Prop := ∃ F', Cache w' cb F' s' ∧ Tch w w' F ∧ ∀ i, F' i → F i ∨ w.heap.size ≤ i

theorem Did.of_below {w w' : World} {cb : Nat} {F : Nat → Prop} {s : St} (h : Cache w cb F s) (hb : Below w.heap.size w w') : Did w w' cb F s := ⟨F, h.under hb, Tch.of_below hb (Nat.le_refl _), fun _ => .inl⟩

theorem size3 : (Try.prog.info? 3).map (·.size) = some 1 := by kernel_rfl
theorem own_keys {w : World} {v : Value} {ks : List Key} {base : Nat} (h : w.ownsRow base 41 3 v ks.length (flat ks)) (hn : ks ≠ []) : KeysAt w v ks ∧ ∃ g, v.ownBlock = some g ∧ base ≤ g := by
  have hpos : 0 < ks.length := List.length_pos_iff.2 hn
  rcases h.2 with ⟨_, h0⟩ | ⟨g, cap, cur, rfl, hb, hg, h1, h2, h3, h4⟩
  · omega
  · exact ⟨.inr ⟨g, cap, cur, rfl, hg, h1, by omega, h2, h3, h4⟩, g, rfl, hb⟩
theorem keys_slice {w : World} {v : Value} {ks : List Key} (h : KeysAt w v ks) : SliceAt w v 3 ks.length (flat ks) := by
  rcases h with ⟨rfl, rfl⟩ | ⟨g, cap, cur, rfl, hg, h1, h0, h2, h3, h4⟩
  · exact SliceAt.nil w 3
  · refine ⟨flat_len ks, by omega, flat_one ks, .inr ⟨_, cap, rfl, h1, fun j u hj => ?_⟩⟩
    rw [Addr.add_lit, Nat.zero_add, hg.cell]
    rw [← h4, List.getElem?_take] at hj
    split at hj
    · simpa using hj
    · cases hj

set_option maxHeartbeats 1000000 in
theorem clone34 (v : Value) (n : Nat) (cs : List Value) (w : World) (h : SliceAt w v 3 n cs) (hb : n * 24 ≤ 140737488355328) :
    Calls Try.prog 34 #[v] w fun e w' => ∃ v', e = .returned v' ∧ w'.ownsRow w.heap.size 41 3 v' n cs ∧ (v' = .slice none 0 0 ↔ v = .slice none 0 0) ∧ Below w.heap.size w w' := by
  obtain ⟨hl, hm, h1, ⟨rfl, rfl⟩ | ⟨a, c, rfl, -, hc⟩⟩ := h
  · obtain rfl : cs = [] := List.eq_nil_of_length_eq_zero (by simpa using hl)
    have q := fun (w : World) (a : Option Addr) (n c n' c' : Nat) => Lib.run_eql_slice_nil (P := Try.prog) w _ _ a n c n' c' Try.underlying26
    go_enter Try.func34, Try.ntmps34
    go_wp2
    go_ret
    refine ⟨.slice none 0 0, rfl, World.ownsRow_nil _ _ _ _, ?_, Below.refl _ _⟩
    simp
  · obtain ⟨i0, z, hi, hz0, hz1, hz2, hzs⟩ := infoOf info41
    have q := fun (w : World) (a : Option Addr) (n c n' c' : Nat) => Lib.run_eql_slice_nil (P := Try.prog) w _ _ a n c n' c' Try.underlying26
    have A := Lib.hid hc
    clear hc
    go_enter Try.func34, Try.ntmps34
    go_wp2_with (at_builtin; refine wpList_append_own _ rfl _ _ 26 rfl w.heap.size 41 i0 z 3 24 Try.underlying26 hi hz0 hz1 hz2 hzs (by decide) _ _ _ rfl (World.ownsRow_made w #[] 0 (Nat.le_refl _) (Nat.zero_le _) (by simp)) a n c cs rfl ?qc1 ?qc2 ?qc3 ?qc4 ?qc5 ?qc6 ?_)
    case qc1 => exact hl
    case qc2 =>
      intro j u hj
      exact Lib.cell?_alloc_some _ (A.out j u hj)
    case qc3 => exact h1
    case qc4 => rw [Nat.zero_add]; exact hm
    case qc5 => rw [Nat.zero_add]; exact hb
    case qc6 => simp
    intro v' w1 hown hgrow hnil
    go_wp2
    go_ret
    refine ⟨v', rfl, by simpa using hown, ?_, ?_⟩
    · simpa using hnil
    · exact ((Below.refl _ w).alloc (Nat.le_refl _) _).grown hgrow (by simp) (by intro k hk; simp [Value.ownBlock] at hk; omega)

theorem clone_any (w : World) (v : Value) (ks : List Key) (h : KeysAt w v ks) (hnil : ks = [] → v = .slice none 0 0) (hbig : ks.length ≤ 100000) :
    Calls Try.prog 34 #[v] w fun e w' => ∃ v', e = .returned v' ∧ KeysAt w' v' ks ∧ (∀ g, v'.ownBlock = some g → w.heap.size ≤ g) ∧ (ks = [] → v' = .slice none 0 0) ∧ Below w.heap.size w w' := by
  refine (clone34 v ks.length (flat ks) w (keys_slice h) (by omega)).mono ?_
  rintro e w' ⟨v', rfl, ho, hn, hb⟩
  by_cases h0 : ks = []
  · have := hn.2 (hnil h0)
    subst this h0
    exact ⟨_, rfl, .inl ⟨rfl, rfl⟩, fun g hg => (by cases hg), fun _ => rfl, hb⟩
  · obtain ⟨hk, g, hg, hle⟩ := own_keys ho h0
    exact ⟨_, rfl, hk, fun g' hg' => by rw [hg] at hg'; cases hg'; exact hle, fun e => absurd e h0, hb⟩

theorem made_yes (w : World) (cb : Nat) (n : Int) (c1 c2 c3 c4 c5 c6 c7 : Value) (hW : Whole w cb 62 #[.int .i64 n, c1, c2, c3, c4, c5, c6, c7]) (hn : 0 < n) : Calls Try.prog 33 #[.pointer (some ⟨cb, 0, none⟩)] w fun e w' => e = .returned (.bool true) ∧ w = w' := by
  have k0 : w.cell? ⟨cb, 0, none⟩ = some (.int .i64 n) := hW.cell 0
  clear hW
  go_enter Try.func33, Try.ntmps33
  go_wp2
  go_ret
  exact ⟨rfl, rfl⟩

/-- No cache that New returned. -/
def NotMade (w : World) (p : Option Addr) : Prop := p = none ∨ ∃ cb c1 c2 c3 c4 c5 c6 c7, p = some ⟨cb, 0, none⟩ ∧ Whole w cb 62 #[.int .i64 0, c1, c2, c3, c4, c5, c6, c7]
theorem NotMade.under {w w' : World} {p : Option Addr} (hb : Below w.heap.size w w') (h : NotMade w p) : NotMade w' p := h.imp id fun ⟨cb, c1, c2, c3, c4, c5, c6, c7, hp, hw⟩ => ⟨cb, c1, c2, c3, c4, c5, c6, c7, hp, Whole.under hb hw hw.lt⟩
theorem made_no (w : World) (p : Option Addr) (h : NotMade w p) : Calls Try.prog 33 #[.pointer p] w fun e w' => e = .returned (.bool false) ∧ w = w' := by
  rcases h with rfl | ⟨cb, c1, c2, c3, c4, c5, c6, c7, rfl, hW⟩
  · go_enter Try.func33, Try.ntmps33
    go_wp2
    go_ret
    exact ⟨rfl, rfl⟩
  · have k0 : w.cell? ⟨cb, 0, none⟩ = some (.int .i64 0) := hW.cell 0
    clear hW
    go_enter Try.func33, Try.ntmps33
    go_wp2
    go_ret
    exact ⟨rfl, rfl⟩

theorem new_no (w : World) (n : Int) (h : n < 1 ∨ 1024 < n) : Calls Try.prog 11 #[.int .i64 n] w fun e w' => e = .returned (.pointer none) ∧ w = w' := by
  rcases h with h | h
  · go_enter Try.func11, Try.ntmps11
    go_wp2
    go_ret
    exact ⟨rfl, rfl⟩
  · have h2 : ¬ n < 1 := by omega
    go_enter Try.func11, Try.ntmps11
    go_wp2
    go_ret
    exact ⟨rfl, rfl⟩

theorem run_makeMap (w : World) : (Instr.makeMap 57 none).run Try.prog w = .ok (.map (some w.heap.size)) (w.alloc (.map #[] 0)) := by simp [Instr.makeMap]
theorem run_makeMap_some (w : World) (n : Int) : (Instr.makeMap 57 (some (.int .i64 n))).run Try.prog w = .ok (.map (some w.heap.size)) (w.alloc (.map #[] 0)) := by simp [Instr.makeMap, run_underlying Try.underlying57, asInt, asIntOf]
def fresh (n : Int) : St := ⟨n, 0, [], 0, 0, 0, 0⟩
theorem new_yes (w : World) (n : Int) (h1 : 1 ≤ n) (h2 : n ≤ 1024) : Calls Try.prog 11 #[.int .i64 n] w fun e w' => ∃ cb F, e = .returned (.pointer (some ⟨cb, 0, none⟩)) ∧ Cache w' cb F (fresh n) ∧ (∀ i, F i → w.heap.size ≤ i) ∧ Below w.heap.size w w' := by
  have q0 := run_makeMap
  go_enter Try.func11, Try.ntmps11
  go_wp2
  go_ret
  have hW : Whole ((w.alloc (.map #[] 0)).alloc (.cells ((fresh n).cells w.heap.size (.slice none 0 0)) 62)) (w.heap.size + 1) 62 ((fresh n).cells w.heap.size (.slice none 0 0)) := by
    have := Whole.new (w.alloc (.map #[] 0)) 62 ((fresh n).cells w.heap.size (.slice none 0 0))
    simpa using this
  refine ⟨_, fun i => i = w.heap.size + 1 ∨ i = w.heap.size ∨ (Value.slice none 0 0).ownBlock = some i, rfl, ⟨w.heap.size, .slice none 0 0, hW, ?_, .inl ⟨rfl, rfl⟩, fun _ => rfl, fun i => Iff.rfl, h1, h2, by simp [fresh]; omega, by simp [fresh, St.keys]⟩, ?_, ((Below.refl _ w).alloc (Nat.le_refl _) _).alloc (by simp) _⟩
  · exact (MapAt.made w Try.prog 41).kept (Below.heap_alloc _ _ _ (by simp))
  · rintro i (rfl | rfl | h)
    · omega
    · omega
    · cases h

theorem seq_any (w : World) (cb : Nat) (F : Nat → Prop) (s : St) (h : Cache w cb F s) : Calls Try.prog 20 #[.pointer (some ⟨cb, 0, none⟩)] w fun e w' => e = .returned (.int .i64 s.seq) ∧ w = w' := by
  obtain ⟨mb, v, h⟩ := h
  have hlo := h.ok.lo
  have HC := Lib.hid h
  have HW := Lib.hid (show Whole w cb 62 #[.int .i64 s.size, .int .i64 s.seq, .map (some mb), v, .int .i64 s.h, .int .i64 s.m, .int .i64 s.e, .int .i64 s.r] from h.blk)
  have k1 : w.cell? ⟨cb, 1, none⟩ = some (.int .i64 s.seq) := HW.out.cell 1
  clear h
  go_enter Try.func20, Try.ntmps20
  go_wp2_with (go_at_call 33; go_must (refine (made_yes _ cb s.size _ _ _ _ _ _ _ HW.out (by omega)).mono ?_; rintro e w' ⟨rfl, rfl⟩))
  go_ret
  exact ⟨rfl, rfl⟩

theorem ents_length (D : List (Key × Dec)) : (ents D).length = D.length := by simp [ents]
theorem len_any (w : World) (cb : Nat) (F : Nat → Prop) (s : St) (h : Cache w cb F s) : Calls Try.prog 17 #[.pointer (some ⟨cb, 0, none⟩)] w fun e w' => e = .returned (.int .i64 s.D.length) ∧ w = w' := by
  obtain ⟨mb, v, h⟩ := h
  have hlo := h.ok.lo
  have HC := Lib.hid h
  have HW := Lib.hid (show Whole w cb 62 #[.int .i64 s.size, .int .i64 s.seq, .map (some mb), v, .int .i64 s.h, .int .i64 s.m, .int .i64 s.e, .int .i64 s.r] from h.blk)
  have k2 : w.cell? ⟨cb, 2, none⟩ = some (.map (some mb)) := HW.out.cell 2
  have q : ∀ ty, (Builtin.len_ #[57] ty #[.map (some mb)]).run Try.prog w = .ok (.int .i64 s.D.length) w := fun ty => by
    have := h.map.len Try.underlying57 ty
    rwa [ents_length] at this
  clear h
  go_enter Try.func17, Try.ntmps17
  go_wp2_with (go_at_call 33; go_must (refine (made_yes _ cb s.size _ _ _ _ _ _ _ HW.out (by omega)).mono ?_; rintro e w' ⟨rfl, rfl⟩))
  go_ret
  exact ⟨rfl, rfl⟩

set_option maxHeartbeats 2000000 in
theorem stats_any (w : World) (cb : Nat) (F : Nat → Prop) (s : St) (h : Cache w cb F s) : Calls Try.prog 18 #[.pointer (some ⟨cb, 0, none⟩)] w fun e w' => e = .returned (.tuple #[.int .i64 s.h, .int .i64 s.m, .int .i64 s.e, .int .i64 s.r]) ∧ Below w.heap.size w w' := by
  obtain ⟨mb, v, h⟩ := h
  have hlo := h.ok.lo
  have HC := Lib.hid h
  have HW := Lib.hid (show Whole w cb 62 #[.int .i64 s.size, .int .i64 s.seq, .map (some mb), v, .int .i64 s.h, .int .i64 s.m, .int .i64 s.e, .int .i64 s.r] from h.blk)
  have k0 : w.cell? ⟨cb, 0, none⟩ = some (.int .i64 s.size) := HW.out.cell 0
  have k1 : w.cell? ⟨cb, 1, none⟩ = some (.int .i64 s.seq) := HW.out.cell 1
  have k2 : w.cell? ⟨cb, 2, none⟩ = some (.map (some mb)) := HW.out.cell 2
  have k3 : w.cell? ⟨cb, 3, none⟩ = some (v) := HW.out.cell 3
  have k4 : w.cell? ⟨cb, 4, none⟩ = some (.int .i64 s.h) := HW.out.cell 4
  have k5 : w.cell? ⟨cb, 5, none⟩ = some (.int .i64 s.m) := HW.out.cell 5
  have k6 : w.cell? ⟨cb, 6, none⟩ = some (.int .i64 s.e) := HW.out.cell 6
  have k7 : w.cell? ⟨cb, 7, none⟩ = some (.int .i64 s.r) := HW.out.cell 7
  clear h
  go_enter Try.func18, Try.ntmps18
  go_wp2_with (go_at_call 33; go_must (refine (made_yes _ cb s.size _ _ _ _ _ _ _ HW.out (by omega)).mono ?_; rintro e w' ⟨rfl, rfl⟩))
  go_quiet (fail)
  go_wp2
  exact bodyPost_ret (v := .tuple #[.int .i64 s.h, .int .i64 s.m, .int .i64 s.e, .int .i64 s.r]) (by simp [results, Try.results18, go_sem]) rfl ⟨rfl, below_drewN (Below.refl _ _) _⟩

theorem keys_any (w : World) (cb : Nat) (F : Nat → Prop) (s : St) (h : Cache w cb F s) : Calls Try.prog 16 #[.pointer (some ⟨cb, 0, none⟩)] w fun e w' => ∃ v', e = .returned v' ∧ KeysAt w' v' s.keys ∧ (∀ g, v'.ownBlock = some g → w.heap.size ≤ g) ∧ Below w.heap.size w w' := by
  obtain ⟨mb, v, h⟩ := h
  have hlo := h.ok.lo
  have HC := Lib.hid h
  have HW := Lib.hid (show Whole w cb 62 #[.int .i64 s.size, .int .i64 s.seq, .map (some mb), v, .int .i64 s.h, .int .i64 s.m, .int .i64 s.e, .int .i64 s.r] from h.blk)
  have k3 : w.cell? ⟨cb, 3, none⟩ = some v := HW.out.cell 3
  have HK := Lib.hid (show _ from clone_any w v s.keys h.keys (fun e => h.nil (by simpa [St.keys] using e)) (by have := h.ok.len; have := h.ok.hi; simp [St.keys]; omega))
  clear h
  go_enter Try.func16, Try.ntmps16
  go_wp2_with (first | (go_at_call 33; go_must (refine (made_yes _ cb s.size _ _ _ _ _ _ _ HW.out (by omega)).mono ?_; rintro e w' ⟨rfl, rfl⟩)) | (go_at_call 34; go_must (refine HK.out.mono ?_; rintro e w1 ⟨v1, rfl, hk1, ho1, hn1, hb1⟩; have HR := Lib.hid (And.intro hk1 (And.intro ho1 hb1)); clear hk1 ho1 hn1 hb1)))
  go_ret
  exact ⟨_, rfl, HR.out.1, HR.out.2.1, HR.out.2.2⟩

/-! ### No cache that New returned -/
theorem seq_no (w : World) (p : Option Addr) (h : NotMade w p) : Calls Try.prog 20 #[.pointer p] w fun e w' => e = .returned (.int .i64 0) ∧ w = w' := by
  have H := Lib.hid (made_no w p h)
  clear h
  go_enter Try.func20, Try.ntmps20
  go_wp2_with (go_at_call 33; go_must (refine H.out.mono ?_; rintro e w' ⟨rfl, rfl⟩))
  go_ret
  exact ⟨rfl, rfl⟩
theorem len_no (w : World) (p : Option Addr) (h : NotMade w p) : Calls Try.prog 17 #[.pointer p] w fun e w' => e = .returned (.int .i64 0) ∧ w = w' := by
  have H := Lib.hid (made_no w p h)
  clear h
  go_enter Try.func17, Try.ntmps17
  go_wp2_with (go_at_call 33; go_must (refine H.out.mono ?_; rintro e w' ⟨rfl, rfl⟩))
  go_ret
  exact ⟨rfl, rfl⟩
theorem stats_no (w : World) (p : Option Addr) (h : NotMade w p) : Calls Try.prog 18 #[.pointer p] w fun e w' => e = .returned (.tuple #[.int .i64 0, .int .i64 0, .int .i64 0, .int .i64 0]) ∧ w = w' := by
  have H := Lib.hid (made_no w p h)
  clear h
  go_enter Try.func18, Try.ntmps18
  go_wp2_with (go_at_call 33; go_must (refine H.out.mono ?_; rintro e w' ⟨rfl, rfl⟩))
  exact bodyPost_ret (v := .tuple #[.int .i64 0, .int .i64 0, .int .i64 0, .int .i64 0]) (by simp [results, Try.results18, go_sem]) rfl ⟨rfl, rfl⟩
theorem keys_no (w : World) (p : Option Addr) (h : NotMade w p) : Calls Try.prog 16 #[.pointer p] w fun e w' => e = .returned (.slice none 0 0) ∧ w = w' := by
  have H := Lib.hid (made_no w p h)
  clear h
  go_enter Try.func16, Try.ntmps16
  go_wp2_with (go_at_call 33; go_must (refine H.out.mono ?_; rintro e w' ⟨rfl, rfl⟩))
  go_ret
  exact ⟨rfl, rfl⟩
theorem copy_no (w : World) (p : Option Addr) (h : NotMade w p) : Calls Try.prog 19 #[.pointer p] w fun e w' => e = .returned (.pointer none) ∧ w = w' := by
  have H := Lib.hid (made_no w p h)
  clear h
  go_enter Try.func19, Try.ntmps19
  go_wp2_with (go_at_call 33; go_must (refine H.out.mono ?_; rintro e w' ⟨rfl, rfl⟩))
  go_ret
  exact ⟨rfl, rfl⟩
theorem reset_no (w : World) (p : Option Addr) (n : Int) (h : NotMade w p) : Calls Try.prog 26 #[.pointer p, .int .i64 n] w fun e w' => e = .returned (.int .i64 1) ∧ w = w' := by
  have H := Lib.hid (made_no w p h)
  clear h
  go_enter Try.func26, Try.ntmps26
  go_wp2_with (go_at_call 33; go_must (refine H.out.mono ?_; rintro e w' ⟨rfl, rfl⟩))
  go_ret
  exact ⟨rfl, rfl⟩
theorem insert_no (w : World) (p : Option Addr) (a b c : Int) (d : Dec) (h : NotMade w p) : Calls Try.prog 22 #[.pointer p, .int .i64 a, .int .i64 b, .int .i64 c, .agg #[.int .u32 d.allowed, .int .u32 d.auditAllow, .int .u32 d.auditDeny, .bool d.permissive, .int .i64 d.seq]] w fun e w' => e = .returned (.int .i64 1) ∧ Below w.heap.size w w' := by
  have H := Lib.hid (made_no _ p (h.under (((Below.refl _ w).alloc (Nat.le_refl _) (.cells #[.int .u32 d.allowed, .int .u32 d.auditAllow, .int .u32 d.auditDeny, .bool d.permissive, .int .i64 d.seq] 46)))))
  clear h
  go_enter Try.func22, Try.ntmps22
  go_wp2_with (go_at_call 33; go_must (refine H.out.mono ?_; rintro e w' ⟨rfl, rfl⟩))
  go_ret
  exact ⟨rfl, (Below.refl _ w).alloc (Nat.le_refl _) _⟩
theorem find_no (w : World) (p : Option Addr) (a b c : Int) (h : NotMade w p) : Calls Try.prog 21 #[.pointer p, .int .i64 a, .int .i64 b, .int .i64 c] w fun e w' => e = .returned (.tuple #[.agg #[.int .u32 0, .int .u32 0, .int .u32 0, .bool false, .int .i64 0], .bool false]) ∧ Below w.heap.size w w' := by
  have H := Lib.hid (made_no _ p (h.under ((Below.refl _ w).alloc (Nat.le_refl _) (.cells #[.int .u32 0, .int .u32 0, .int .u32 0, .bool false, .int .i64 0] 46))))
  clear h
  go_enter Try.func21, Try.ntmps21
  go_wp2_with (go_at_call 33; go_must (refine H.out.mono ?_; rintro e w' ⟨rfl, rfl⟩))
  refine bodyPost_ret (v := .tuple #[.agg #[.int .u32 0, .int .u32 0, .int .u32 0, .bool false, .int .i64 0], .bool false]) ?_ rfl ⟨rfl, ?_⟩
  · simp [results, Try.results21, go_sem]
  · exact (Below.refl _ w).alloc (Nat.le_refl _) _

end Go.Proofs.Ytcdhjcjdphnleaa
