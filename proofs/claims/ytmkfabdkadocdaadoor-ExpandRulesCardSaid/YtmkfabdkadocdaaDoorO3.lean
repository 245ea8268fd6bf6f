import Derived.Test.YtmkfabdkadocdaaDoorSH
import Derived.Test.YtmkfabdkadocdaaDoorMD
import Derived.Test.YtmkfabdkadocdaaDoorN6
/-
  expand.entries: the entries of a map, in their order.
-/
namespace Go.Proofs.YtmkfabdkadocdaaDoor
open Go Go.WideMaps Go.RowKit Go.Sort

theorem size76 : (Tryd.prog.info? 76).map (·.size) = some 4 := by kernel_rfl
theorem info61 : infoB (Tryd.prog.info? 61) 7 48 = true := by kernel_rfl
theorem equ8 (a b : Int) (w : World) : (Op.equalIn 9999 25 (.int .u32 a) (.int .u32 b)).run Tryd.prog w = .ok (decide (a = b)) w := equ9 a b w
set_option maxRecDepth 100000 in
theorem eq_vec (x y : AVec) (w : World) : (Op.equalIn 10000 73 (.agg #[.int .u32 x.allow, .int .u32 x.audit, .int .u32 x.dont]) (.agg #[.int .u32 y.allow, .int .u32 y.audit, .int .u32 y.dont])).run Tryd.prog w = .ok (([decide (x.allow = y.allow), decide (x.audit = y.audit), decide (x.dont = y.dont)] : List Bool).all id) w := by
  have hf : (Tryd.prog.fieldsOf 73).toList.map (fun f => (f.type, f.offset)) = [(25, 0), (25, 1), (25, 2)] := by kernel_rfl
  rw [run_equalIn_agg w 9999 73 _ _ (by kernel_rfl) (by kernel_rfl)]
  refine eq_fields _ _ (by kernel_rfl) (by kernel_rfl) fun i f r hi hr => ?_
  have hm := congrArg (fun z : List (Nat × Nat) => z[i]?) hf
  simp only [List.getElem?_map, hi, Option.map_some] at hm
  have hlt : i < 3 := (List.getElem?_eq_some_iff.1 hr).1
  match i, hlt with
  | 0, _ =>
    obtain ⟨h1, h2⟩ := Prod.mk.inj (Option.some.inj hm)
    obtain rfl := Option.some.inj hr
    rw [h1, h2]
    exact ⟨.int .u32 x.allow, .int .u32 y.allow, by kernel_rfl, by kernel_rfl, equ9 _ _ _⟩
  | 1, _ =>
    obtain ⟨h1, h2⟩ := Prod.mk.inj (Option.some.inj hm)
    obtain rfl := Option.some.inj hr
    rw [h1, h2]
    exact ⟨.int .u32 x.audit, .int .u32 y.audit, by kernel_rfl, by kernel_rfl, equ9 _ _ _⟩
  | 2, _ =>
    obtain ⟨h1, h2⟩ := Prod.mk.inj (Option.some.inj hm)
    obtain rfl := Option.some.inj hr
    rw [h1, h2]
    exact ⟨.int .u32 x.dont, .int .u32 y.dont, by kernel_rfl, by kernel_rfl, equ9 _ _ _⟩
theorem eq_vec0 (v : AVec) (w : World) : (Op.equalIn 10000 73 (.agg #[.int .u32 v.allow, .int .u32 v.audit, .int .u32 v.dont]) (.agg #[.int .u32 0, .int .u32 0, .int .u32 0])).run Tryd.prog w = .ok (decide (v = AVec.zero)) w := by
  have h := eq_vec v ⟨0, 0, 0⟩ w
  dsimp only at h
  rw [h]
  obtain ⟨a, b, c⟩ := v
  simp [AVec.zero]

theorem own_step {w w' : World} {base : Nat} {e : TypeId} {k n : Nat} {v : Value} {xs : List Value} (h : w.ownsRow base e k v n xs) (hb : ∀ g, v.ownBlock = some g → w'.heap[g]? = w.heap[g]?) : w'.ownsRow base e k v n xs :=
  ⟨h.1, h.2.imp id fun ⟨g, cap, cur, hv, hg, hh, r⟩ => ⟨g, cap, cur, hv, hg, (hb g (by rw [hv]; rfl)).trans hh, r⟩⟩
theorem own_at {w : World} {base : Nat} {e : TypeId} {k n : Nat} {v : Value} {xs : List Value} (h : w.ownsRow base e k v n xs) {g : Nat} (hg : v.ownBlock = some g) : base ≤ g ∧ ∃ cur, w.heap[g]? = some (.cells cur e (0, 0)) := by
  rcases h.2 with ⟨rfl, _⟩ | ⟨g', cap, cur, rfl, hb, hh, _⟩
  · simp [Value.ownBlock] at hg
  · have e1 : g' = g := by simpa [Value.ownBlock] using hg
    subst e1
    exact ⟨hb, cur, hh⟩
theorem row_new (w : World) (cs : List Value) (t : TypeId) : ∀ j u, cs[j]? = some u → (w.alloc (.cells cs.toArray t)).cell? ((⟨w.heap.size, 0, none⟩ : Addr).add j) = some u := fun j u hj => by
  rw [Addr.add_lit, Nat.zero_add]
  exact ((Whole.new w t cs.toArray).cell j).trans (by simpa using hj)
theorem two_b6 {wn w5 w6 : World} {o1 o2 : Obj} (h5 : Sto ((wn.alloc o1).alloc o2) w5 wn.heap.size) (h6 : Sto w5 w6 (wn.heap.size + 1)) : Below wn.heap.size wn w6 :=
  ((((Below.refl _ wn).alloc (Nat.le_refl _) _).alloc (by simp) _).trans (h5.below (Nat.le_refl _))).trans (h6.below (by omega))
theorem Below.of_iter {w w' : World} {r B : Nat} (h : w.grownBy w' (some r)) (hr : B ≤ r) (hB : B ≤ w.heap.size) (hs : w'.heap.size = w.heap.size) : Below B w w' :=
  ⟨h.os, h.tape, h.output, by omega, fun k hk => h.block k (by omega) (fun e => by cases e; omega)⟩

def unkv : Value × Value → Key4 × AVec
  | (.agg #[.int _ a, .int _ b, .int _ c, .int _ d], .agg #[.int _ x, .int _ y, .int _ z]) => (⟨a, b, c, d⟩, ⟨x, y, z⟩)
  | _ => (⟨0, 0, 0, 0⟩, ⟨0, 0, 0⟩)
theorem unkv_kv (p : Key4 × AVec) : unkv (kvVal p) = p := rfl
theorem kv_perm {a b : List (Key4 × AVec)} (h : (a.map kvVal).Perm (b.map kvVal)) : a.Perm b := by
  have := h.map unkv
  rw [List.map_map, List.map_map] at this
  have e : unkv ∘ kvVal = id := funext unkv_kv
  simpa [e] using this
theorem outL_snoc (E : List (Key4 × AVec)) (p : Key4 × AVec) : outL (E ++ [p]) = outL E ++ (if nz p then [mkE p.1 p.2] else []) := by
  unfold outL
  rw [List.filter_append, List.map_append]
  congr 1
  cases h : nz p <;> simp [h]
theorem outL_perm {a b : List (Key4 × AVec)} (h : a.Perm b) : (outL a).Perm (outL b) := (h.filter nz).map _
theorem outL_len (E : List (Key4 × AVec)) : (outL E).length ≤ E.length := by unfold outL; rw [List.length_map]; exact List.length_filter_le _ _
theorem ecells_len (l : List AEntry) : (l.flatMap AEntry.cells).length = l.length * 7 := flat_length (f := AEntry.cells) (fun _ => rfl) l
theorem ecells_one (l : List AEntry) : ∀ u ∈ l.flatMap AEntry.cells, u.oneCell' = true := by
  intro u hu
  obtain ⟨x, -, hx⟩ := List.mem_flatMap.1 hu
  simp [AEntry.cells] at hx
  rcases hx with rfl | rfl | rfl | rfl | rfl | rfl | rfl <;> rfl

/-- Entries gathered out of a map so far (E), 'left' still to come. -/
structure Gath (w wr : World) (mb r : Nat) (D E : List (Key4 × AVec)) (left : List (Value × Value)) (u : Value) : Prop where
  perm : (D.map kvVal).Perm (left ++ E.map kvVal)
  row : wr.ownsRow w.heap.size 61 7 u (outL E).length ((outL E).flatMap AEntry.cells)
  rng : Ranging wr Tryd.prog 76 mb r (D.map kvVal) left
  blw : Below w.heap.size w wr
  mlt : mb < w.heap.size
  rle : w.heap.size ≤ r
/-- One more has been read. -/
structure GMid (w wr : World) (mb r : Nat) (D E : List (Key4 × AVec)) (p : Key4 × AVec) (left : List (Value × Value)) (u : Value) : Prop where
  perm : (D.map kvVal).Perm (left ++ (E ++ [p]).map kvVal)
  row : wr.ownsRow w.heap.size 61 7 u (outL E).length ((outL E).flatMap AEntry.cells)
  rng : Ranging wr Tryd.prog 76 mb r (D.map kvVal) left
  blw : Below w.heap.size w wr
  mlt : mb < w.heap.size
  rle : w.heap.size ≤ r
theorem Ranging.iter {P : Program} {k : TypeId} {w : World} {b r : Nat} {D left : List (Value × Value)} (h : Ranging w P k b r D left) : ∃ x y z t, w.heap[r]? = some (.mapIter x y z t) := by
  obtain ⟨es, clock, since, seen, c0, _, _, _, _, hr, _⟩ := h
  exact ⟨_, _, _, _, hr⟩
theorem Gath.small {w wr : World} {mb r : Nat} {D E : List (Key4 × AVec)} {left : List (Value × Value)} {u : Value} (h : Gath w wr mb r D E left u) : (outL E).length ≤ D.length := by
  have := h.perm.length_eq
  simp at this
  have := outL_len E
  omega
theorem GMid.small {w wr : World} {mb r : Nat} {D E : List (Key4 × AVec)} {p : Key4 × AVec} {left : List (Value × Value)} {u : Value} (h : GMid w wr mb r D E p left u) : (outL E).length + 1 ≤ D.length := by
  have := h.perm.length_eq
  simp at this
  have := outL_len E
  omega
theorem Gath.next {w wr wn : World} {mb r : Nat} {D E : List (Key4 × AVec)} {p : Key4 × AVec} {left left' : List (Value × Value)} {u : Value} (h : Gath w wr mb r D E left u) (hp : left.Perm (kvVal p :: left'))
    (hr : Ranging wn Tryd.prog 76 mb r (D.map kvVal) left') (hg : wr.grownBy wn (some r)) (hs : wn.heap.size = wr.heap.size) : GMid w wn mb r D E p left' u := by
  refine ⟨?_, own_step h.row fun g hg' => ?_, hr, h.blw.trans (Below.of_iter hg h.rle h.blw.size hs), h.mlt, h.rle⟩
  · refine h.perm.trans ((hp.append_right _).trans ?_)
    rw [List.map_append, List.map_singleton, ← List.append_assoc]
    exact (List.perm_append_singleton _ _).symm
  · obtain ⟨_, cur, hh⟩ := own_at h.row hg'
    refine hg.block g (Array.getElem?_eq_some_iff.1 hh).1 (fun e => ?_)
    cases e
    obtain ⟨x, y, z, t, hi⟩ := h.rng.iter
    rw [hi] at hh
    cases hh
theorem GMid.own {w wn w6 : World} {mb r : Nat} {D E : List (Key4 × AVec)} {p : Key4 × AVec} {left : List (Value × Value)} {u : Value} (h : GMid w wn mb r D E p left u) (hb : Below wn.heap.size wn w6) : w6.ownsRow w.heap.size 61 7 u (outL E).length ((outL E).flatMap AEntry.cells) := own_keep hb h.row (Nat.le_refl _)
theorem GMid.skip {w wn w6 : World} {mb r : Nat} {D E : List (Key4 × AVec)} {p : Key4 × AVec} {left : List (Value × Value)} {u : Value} (h : GMid w wn mb r D E p left u) (hz : nz p = false) (hb : Below wn.heap.size wn w6) : Gath w w6 mb r D (E ++ [p]) left u :=
  ⟨h.perm, by rw [outL_snoc, hz]; simpa using h.own hb, h.rng.kept (hb.block _ h.rng.map.lt) (hb.block _ h.rng.lt), h.blw.trans (hb.mono h.blw.size), h.mlt, h.rle⟩
theorem GMid.more {w wn w6 w7 : World} {mb r : Nat} {D E : List (Key4 × AVec)} {p : Key4 × AVec} {left : List (Value × Value)} {u u' : Value} {o : Obj} (h : GMid w wn mb r D E p left u) (hz : nz p = true) (hb : Below wn.heap.size wn w6)
    (hown : w7.ownsRow w.heap.size 61 7 u' ((outL E).length + 1) ((outL E).flatMap AEntry.cells ++ AEntry.cells (mkE p.1 p.2))) (hg : (w6.alloc o).grownBy w7 u.ownBlock) : Gath w w7 mb r D (E ++ [p]) left u' := by
  have hrow := h.own hb
  have hb1 := hb.alloc (Nat.le_trans (Nat.le_refl _) hb.size) o
  have hR := h.rng.kept (hb1.block _ h.rng.map.lt) (hb1.block _ h.rng.lt)
  have hbw : Below w.heap.size w (w6.alloc o) := h.blw.trans (hb1.mono h.blw.size)
  have hne : ∀ g, u.ownBlock = some g → w.heap.size ≤ g ∧ g ≠ r := fun g hg' => by
    obtain ⟨h1, cur, hh⟩ := own_at (own_alloc hrow o) hg'
    refine ⟨h1, fun e => ?_⟩
    subst e
    obtain ⟨x, y, z, t, hi⟩ := hR.iter
    rw [hi] at hh
    cases hh
  refine ⟨h.perm, ?_, hR.kept (hg.block _ hR.map.lt fun e => ?_) (hg.block _ hR.lt fun e => (hne _ e.symm).2 rfl), hbw.grown hg (by have := hb.size; have := h.blw.size; simp; omega) (fun q hq => (hne q hq).1), h.mlt, h.rle⟩
  · rw [outL_snoc, hz]
    simpa using hown
  · have := (hne _ e.symm).1
    have := h.mlt
    omega

set_option maxRecDepth 100000 in
set_option maxHeartbeats 8000000 in
theorem entries_any (w : World) (mb : Nat) (D : List (Key4 × AVec)) (h : MapAt w Tryd.prog 76 mb (D.map kvVal)) (hD : D.length ≤ 100000000) :
    Calls Tryd.prog 35 #[.map (some mb)] w fun e w' => ∃ (v : Value) (l' : List AEntry), e = .returned v ∧ l'.Perm (outL D) ∧ l'.Pairwise (fun x y => ltOf beforeI y x = false) ∧ SliceAt w' v 7 l'.length (l'.flatMap AEntry.cells) ∧ Below w.heap.size w w' := by
  obtain ⟨i0, z, hi, hz0, hz1, hz2, hzs⟩ := infoOf info61
  have HM0 := Lib.hid h
  clear h
  go_enter Tryd.func35, Tryd.ntmps35
  go_wp2_with (first | (refine wpList_range_at _ rfl (.tmp 6) 71 rfl 76 73 Tryd.underlying71 mb (D.map kvVal) rfl HM0.out ?_; intro w3 hr3 hg3 hs3; have HR3 := Lib.hid hr3; have HG3 := Lib.hid hg3; have HS3 := Lib.hid hs3; clear hr3 hg3 hs3))
  have HG0 := Lib.hid (show Gath w w3 mb w.heap.size D [] (D.map kvVal) (.slice none 0 0) from ⟨by simp, World.ownsRow_nil _ _ _ _, HR3.out, ⟨HG3.out.os, HG3.out.tape, HG3.out.output, by have := HS3.out; omega, fun k hk => HG3.out.block k hk (fun e => by cases e)⟩, HM0.out.lt, Nat.le_refl _⟩)
  clear HR3 HG3 HS3 HM0
  simp only [Act.put, List.setIfInBounds_toArray, List.set_cons_zero, List.set_cons_succ]
  go_loopw [3] (fun u wr => ∃ E left, Gath w wr mb w.heap.size D E left u) (fun _ wr => wr.rangeLeft mb w.heap.size)
  case atStart => exact ⟨_, _, HG0.out⟩
  case round =>
    clear HG0
    obtain ⟨E, left, hG⟩ := hrel
    have hlen := hG.rng.left_eq
    have HLE := Lib.hid hlen
    have HG := Lib.hid hG
    clear hlen
    rcases hG.rng.next 0 with ⟨h0, hrun⟩ | ⟨key, val, left', wn, hp, hrun, hrg, hgr, hsz, hen⟩
    · have HE0 := Lib.hid h0
      clear h0 hG
      go_wp2_with (first | (go_at_call 51; go_must (refine (sort_any _ _ (outL E) w.heap.size HG.out.row (by have := HG.out.small; omega) HG.out.blw.size).mono ?_; rintro e w8 ⟨rfl, l', hp8, hs8, hsl8, hb8⟩; have HQ := Lib.hid (And.intro hp8 (And.intro hs8 (And.intro hsl8 hb8))); clear hp8 hs8 hsl8 hb8)))
      go_ret
      obtain ⟨hp8, hs8, hsl8, hb8⟩ := HQ.out
      refine ⟨_, l', rfl, hp8.trans (outL_perm (kv_perm ?_)), hs8, hsl8, HG.out.blw.trans hb8⟩
      have := HG.out.perm
      rw [HE0.out] at this
      exact (by simpa using this.symm)
    · have hmem : (key, val) ∈ D.map kvVal := hG.perm.mem_iff.2 (List.mem_append_left _ (hp.mem_iff.2 (by simp)))
      obtain ⟨⟨k, v⟩, -, he⟩ := List.mem_map.1 hmem
      obtain ⟨rfl, rfl⟩ : .agg #[.int .i64 k.src, .int .i64 k.tgt, .int .i64 k.cls, .int .i64 k.cond] = key ∧ .agg #[.int .u32 v.allow, .int .u32 v.audit, .int .u32 v.dont] = val := Prod.mk.inj he
      have HM := Lib.hid (hG.next (p := (k, v)) hp hrg hgr hsz)
      have HLL := Lib.hid (And.intro hp hsz)
      clear hmem he hp hrg hgr hsz hG
      by_cases hv : v = AVec.zero
      · have HNZ := Lib.hid (show nz (k, v) = false by simp [nz, hv])
        have q : ∀ W : World, (Op.equalIn 10000 73 (.agg #[.int .u32 v.allow, .int .u32 v.audit, .int .u32 v.dont]) (.agg #[.int .u32 0, .int .u32 0, .int .u32 0])).run Tryd.prog W = .ok true W := fun W => by rw [eq_vec0]; simp [hv]
        have HVZ := Lib.hid hv
        clear hv
        go_wp2_with (first | (refine wpList_store_blk rfl 76 _ _ rfl wn.heap.size 0 (.agg #[.int .i64 k.src, .int .i64 k.tgt, .int .i64 k.cls, .int .i64 k.cond]) rfl rfl 76 _ ((Whole.new wn 76 _).alloc _) (by simp [Value.cells]) size76 rfl ?_; intro w5 S5 W5; rw [splice_all _ _ (by rfl)] at W5; have HS5 := Lib.hid S5; have HK5 := Lib.hid (show Whole w5 wn.heap.size 76 #[.int .i64 k.src, .int .i64 k.tgt, .int .i64 k.cls, .int .i64 k.cond] from W5); clear S5 W5) | (refine wpList_store_blk rfl 73 _ _ rfl (wn.heap.size + 1) 0 (.agg #[.int .u32 v.allow, .int .u32 v.audit, .int .u32 v.dont]) rfl rfl 73 _ (HS5.out.whole (whole_two wn _ _ _) (by omega)) (by simp [Value.cells]) size73 rfl ?_; intro w6 S6 W6; rw [splice_all _ _ (by rfl)] at W6; have HS6 := Lib.hid S6; have HV6 := Lib.hid (show Whole w6 (wn.heap.size + 1) 73 #[.int .u32 v.allow, .int .u32 v.audit, .int .u32 v.dont] from W6); have HB6 := Lib.hid (two_b6 HS5.out HS6.out); clear S6 W6; have a0 : w6.cell? ⟨wn.heap.size, 0, none⟩ = some (.int .i64 k.src) := (HS6.out.whole HK5.out (by omega)).cell 0; have a1 : w6.cell? ⟨wn.heap.size, 1, none⟩ = some (.int .i64 k.tgt) := (HS6.out.whole HK5.out (by omega)).cell 1; have a2 : w6.cell? ⟨wn.heap.size, 2, none⟩ = some (.int .i64 k.cls) := (HS6.out.whole HK5.out (by omega)).cell 2; have a3 : w6.cell? ⟨wn.heap.size, 3, none⟩ = some (.int .i64 k.cond) := (HS6.out.whole HK5.out (by omega)).cell 3; have b0 : w6.cell? ⟨wn.heap.size + 1, 0, none⟩ = some (.int .u32 v.allow) := HV6.out.cell 0; have b1 : w6.cell? ⟨wn.heap.size + 1, 1, none⟩ = some (.int .u32 v.audit) := HV6.out.cell 1; have b2 : w6.cell? ⟨wn.heap.size + 1, 2, none⟩ = some (.int .u32 v.dont) := HV6.out.cell 2))
        go_roundw
        case rel => exact ⟨E ++ [(k, v)], left', HM.out.skip HNZ.out HB6.out⟩
        case measure =>
          have h1 := (HM.out.skip HNZ.out HB6.out).rng.left_eq
          have h2 := HLL.out.1.length_eq
          have h3 := HLE.out
          simp only [List.length_cons] at h2
          omega
      · have HNZ := Lib.hid (show nz (k, v) = true by simp [nz, hv])
        have q : ∀ W : World, (Op.equalIn 10000 73 (.agg #[.int .u32 v.allow, .int .u32 v.audit, .int .u32 v.dont]) (.agg #[.int .u32 0, .int .u32 0, .int .u32 0])).run Tryd.prog W = .ok false W := fun W => by rw [eq_vec0]; simp [hv]
        have HVZ := Lib.hid hv
        clear hv
        have hsm := HM.out.small
        go_wp2_with (first | (refine wpList_store_blk rfl 76 _ _ rfl wn.heap.size 0 (.agg #[.int .i64 k.src, .int .i64 k.tgt, .int .i64 k.cls, .int .i64 k.cond]) rfl rfl 76 _ ((Whole.new wn 76 _).alloc _) (by simp [Value.cells]) size76 rfl ?_; intro w5 S5 W5; rw [splice_all _ _ (by rfl)] at W5; have HS5 := Lib.hid S5; have HK5 := Lib.hid (show Whole w5 wn.heap.size 76 #[.int .i64 k.src, .int .i64 k.tgt, .int .i64 k.cls, .int .i64 k.cond] from W5); clear S5 W5) | (refine wpList_store_blk rfl 73 _ _ rfl (wn.heap.size + 1) 0 (.agg #[.int .u32 v.allow, .int .u32 v.audit, .int .u32 v.dont]) rfl rfl 73 _ (HS5.out.whole (whole_two wn _ _ _) (by omega)) (by simp [Value.cells]) size73 rfl ?_; intro w6 S6 W6; rw [splice_all _ _ (by rfl)] at W6; have HS6 := Lib.hid S6; have HV6 := Lib.hid (show Whole w6 (wn.heap.size + 1) 73 #[.int .u32 v.allow, .int .u32 v.audit, .int .u32 v.dont] from W6); have HB6 := Lib.hid (two_b6 HS5.out HS6.out); clear S6 W6; have a0 : w6.cell? ⟨wn.heap.size, 0, none⟩ = some (.int .i64 k.src) := (HS6.out.whole HK5.out (by omega)).cell 0; have a1 : w6.cell? ⟨wn.heap.size, 1, none⟩ = some (.int .i64 k.tgt) := (HS6.out.whole HK5.out (by omega)).cell 1; have a2 : w6.cell? ⟨wn.heap.size, 2, none⟩ = some (.int .i64 k.cls) := (HS6.out.whole HK5.out (by omega)).cell 2; have a3 : w6.cell? ⟨wn.heap.size, 3, none⟩ = some (.int .i64 k.cond) := (HS6.out.whole HK5.out (by omega)).cell 3; have b0 : w6.cell? ⟨wn.heap.size + 1, 0, none⟩ = some (.int .u32 v.allow) := HV6.out.cell 0; have b1 : w6.cell? ⟨wn.heap.size + 1, 1, none⟩ = some (.int .u32 v.audit) := HV6.out.cell 1; have b2 : w6.cell? ⟨wn.heap.size + 1, 2, none⟩ = some (.int .u32 v.dont) := HV6.out.cell 2) | (have hZ := HNZ; clear hZ; at_builtin; go_must (refine wpList_append_own _ rfl _ _ 52 rfl w.heap.size 61 i0 z 7 48 Tryd.underlying52 hi hz0 hz1 hz2 hzs (by decide) _ _ _ rfl (own_alloc (HM.out.own HB6.out) _) ⟨w6.heap.size, 0, none⟩ 1 1 [.int .i64 k.src, .int .i64 k.tgt, .int .i64 k.cls, .int .i64 k.cond, .int .u32 v.allow, .int .u32 v.audit, .int .u32 v.dont] rfl rfl (row_new _ _ _) ?c2 ?c3 ?c4 ?c5 ?_)))
        case c2 => simp [Value.oneCell']
        case c3 => unfold maxLen; omega
        case c4 => omega
        case c5 => have := HM.out.blw.size; have := HB6.out.size; simp; omega
        intro v' w9 hown' hgrow hnil
        have HN9 := Lib.hid (HM.out.more HNZ.out HB6.out hown' hgrow)
        clear hgrow hnil hown' a0 a1 a2 a3 b0 b1 b2
        go_wp2
        go_roundw
        case rel => exact ⟨E ++ [(k, v)], left', HN9.out⟩
        case measure =>
          have h1 := HN9.out.rng.left_eq
          have h2 := HLL.out.1.length_eq
          have h3 := HLE.out
          simp only [List.length_cons] at h2
          omega
end Go.Proofs.YtmkfabdkadocdaaDoor
