import Derived.Test.YtcdhjcjdphnleaaO
import Derived.Test.YtcdhjcjdphnleaaN
import Derived.Test.YtcdhjcjdphnleaaZ
namespace Go.Proofs.Ytcdhjcjdphnleaa
open Go Go.WideMaps Go.RowKit

/-- Of what there was, only blocks of F may have changed. -/
structure Tch (w w' : World) (F : Nat → Prop) : Prop where
  os : w'.os = w.os
  tape : w'.tape = w.tape
  output : w'.output = w.output
  size : w.heap.size ≤ w'.heap.size
  block : ∀ i, i < w.heap.size → ¬ F i → w'.heap[i]? = w.heap[i]?

theorem Tch.refl (w : World) (F : Nat → Prop) : Tch w w F := ⟨rfl, rfl, rfl, Nat.le_refl _, fun _ _ _ => rfl⟩
theorem Tch.trans {a b c : World} {F : Nat → Prop} (h : Tch a b F) (k : Tch b c F) : Tch a c F :=
  ⟨k.os.trans h.os, k.tape.trans h.tape, k.output.trans h.output, Nat.le_trans h.size k.size, fun i hi hF => (k.block i (Nat.lt_of_lt_of_le hi h.size) hF).trans (h.block i hi hF)⟩
theorem Tch.trans' {a b c : World} {F F' : Nat → Prop} (h : Tch a b F) (k : Tch b c F') (hF : ∀ i, F' i → F i ∨ a.heap.size ≤ i) : Tch a c F :=
  ⟨k.os.trans h.os, k.tape.trans h.tape, k.output.trans h.output, Nat.le_trans h.size k.size, fun i hi hn => (k.block i (Nat.lt_of_lt_of_le hi h.size) fun hf => (hF i hf).elim hn (by omega)).trans (h.block i hi hn)⟩
theorem Tch.of_below {w w' : World} {F : Nat → Prop} {B : Nat} (h : Below B w w') (hB : w.heap.size ≤ B) : Tch w w' F := ⟨h.os, h.tape, h.output, h.size, fun i hi _ => h.block i (by omega)⟩
theorem Tch.of_sto {w w' : World} {F : Nat → Prop} {g : Nat} (h : Sto w w' g) (hg : F g) : Tch w w' F :=
  ⟨h.os, h.tape, h.output, by rw [h.size]; exact Nat.le_refl _, fun i _ hn => h.block i fun e => hn (e ▸ hg)⟩
theorem Tch.of_grown {w w' : World} {F : Nat → Prop} {r : Option Nat} (h : w.grownBy w' r) (hg : ∀ g, r = some g → F g) : Tch w w' F :=
  ⟨h.os, h.tape, h.output, h.size, fun i hi hn => h.block i hi fun e => hn (hg i e.symm)⟩
theorem Tch.drew {w w' : World} {F : Nat → Prop} (h : Tch w.drew w' F) : Tch w w' F := ⟨h.os, h.tape, h.output, h.size, h.block⟩
theorem Tch.below {w w' : World} {F : Nat → Prop} {B : Nat} (h : Tch w w' F) (hF : ∀ i, F i → B ≤ i) (hB : B ≤ w.heap.size) : Below B w w' :=
  ⟨h.os, h.tape, h.output, h.size, fun i hi => h.block i (by omega) fun hf => by have := hF i hf; omega⟩
theorem Tch.mono {w w' : World} {F F' : Nat → Prop} (h : Tch w w' F) (hF : ∀ i, F i → F' i ∨ w.heap.size ≤ i) : Tch w w' F' :=
  ⟨h.os, h.tape, h.output, h.size, fun i hi hn => h.block i hi fun hf => (hF i hf).elim hn (by omega)⟩
theorem Tch.whole {w w' : World} {F : Nat → Prop} {g : Nat} {t : TypeId} {cs : Array Value} (h : Tch w w' F) (hw : Whole w g t cs) (hg : ¬ F g) : Whole w' g t cs := (h.block g hw.lt hg).trans hw

theorem KeysAt.under {w w' : World} {v : Value} {ks : List Key} (hb : Below w.heap.size w w') (h : KeysAt w v ks) : KeysAt w' v ks := h.kept fun g _ hg => hb.block g hg
theorem KeysAt.lt {w : World} {v : Value} {ks : List Key} (h : KeysAt w v ks) : ∀ g, v.ownBlock = some g → g < w.heap.size := by
  rcases h with ⟨rfl, _⟩ | ⟨g, cap, cur, rfl, hg, _⟩
  · intro g hg; cases hg
  · intro g' hg'
    have : g = g' := by simpa [Value.ownBlock] using hg'
    subst this
    exact hg.lt
theorem KeysAt.tch {w w' : World} {F : Nat → Prop} {v : Value} {ks : List Key} (h : KeysAt w v ks) (hb : Tch w w' F) (hF : ∀ g, v.ownBlock = some g → ¬ F g) : KeysAt w' v ks := h.kept fun g hv hg => hb.block g hg (hF g hv)
/-- The block of keys is none of another type. -/
theorem KeysAt.far {w : World} {v : Value} {ks : List Key} {g : Nat} {t : TypeId} {cs : Array Value} (h : KeysAt w v ks) (hw : Whole w g t cs) (ht : t ≠ 41) : v.ownBlock ≠ some g := by
  rcases h with ⟨rfl, _⟩ | ⟨g', cap, cur, rfl, hg, _⟩
  · intro e; cases e
  · intro e
    have : g' = g := by simpa [Value.ownBlock] using e
    subst this
    have h2 := hg.symm.trans hw
    simp only [Option.some.injEq, Obj.cells.injEq] at h2
    exact ht h2.2.1.symm

theorem size26 : (Try.prog.info? 26).map (·.size) = some 1 := by kernel_rfl
theorem place_in {ks : List Key} {k : Key} (h : k ∈ ks) : place ks k = (ks.idxOf k : Int) := if_pos h
theorem place_out {ks : List Key} {k : Key} (h : k ∉ ks) : place ks k = -1 := if_neg h
theorem index_in (w : World) (v : Value) (ks : List Key) (k : Key) (h : KeysAt w v ks) (n : Nat) (hn : k ∈ ks) (hi : ks.idxOf k = n) : Calls Try.prog 42 #[v, .agg #[.int .i64 k.a, .int .i64 k.b, .int .i64 k.c]] w fun e w' => e = .returned (.int .i64 n) ∧ Below w.heap.size w w' := by
  have := index_any w v ks k h
  rw [place_in hn, hi] at this
  exact this
theorem index_out (w : World) (v : Value) (ks : List Key) (k : Key) (h : KeysAt w v ks) (hn : k ∉ ks) : Calls Try.prog 42 #[v, .agg #[.int .i64 k.a, .int .i64 k.b, .int .i64 k.c]] w fun e w' => e = .returned (.int .i64 (-1)) ∧ Below w.heap.size w w' := by
  have := index_any w v ks k h
  rw [place_out hn] at this
  exact this

theorem splice_keys (c0 c1 c2 v c4 c5 c6 c7 : Value) (a : Option Addr) (n c : Nat) : splice #[c0, c1, c2, v, c4, c5, c6, c7] 3 (Value.slice a n c).cells.toList = #[c0, c1, c2, .slice a n c, c4, c5, c6, c7] := rfl
/-- What forget and use leave: the cache's block with another slice of keys. -/
def Turned (w w' : World) (cb : Nat) (c0 c1 c2 v c4 c5 c6 c7 : Value) (ks : List Key) (fresh : Bool) : Prop :=
  ∃ v', Whole w' cb 62 #[c0, c1, c2, v', c4, c5, c6, c7] ∧ KeysAt w' v' ks ∧ (v'.ownBlock = v.ownBlock ∨ fresh = true ∧ ∃ g, v'.ownBlock = some g ∧ w.heap.size ≤ g) ∧ Tch w w' (fun i => i = cb ∨ v.ownBlock = some i)

set_option maxHeartbeats 2000000 in
theorem forget_out (w : World) (cb : Nat) (c0 c1 c2 v c4 c5 c6 c7 : Value) (ks : List Key) (k : Key) (hW : Whole w cb 62 #[c0, c1, c2, v, c4, c5, c6, c7]) (hK : KeysAt w v ks) (hin : k ∉ ks) :
    Calls Try.prog 37 #[.pointer (some ⟨cb, 3, none⟩), .agg #[.int .i64 k.a, .int .i64 k.b, .int .i64 k.c]] w fun e w' => e = .returned (.tuple #[]) ∧ Below w.heap.size w w' := by
  have HIN := Lib.hid hin
  clear hin
  have HW0 := Lib.hid hW
  have HK0 := Lib.hid hK
  clear hW hK
  go_enter Try.func37, Try.ntmps37
  go_wp2_with fail
  obtain ⟨wo, hwo⟩ : ∃ wo, wo = w.alloc (.cells #[.int .i64 k.a, .int .i64 k.b, .int .i64 k.c] 41) := ⟨_, rfl⟩
  rw [← hwo]
  have HW := Lib.hid (show Whole wo cb 62 #[c0, c1, c2, v, c4, c5, c6, c7] by rw [hwo]; exact HW0.out.alloc _)
  have HB0 := Lib.hid (show Whole wo w.heap.size 41 #[.int .i64 k.a, .int .i64 k.b, .int .i64 k.c] by rw [hwo]; exact Whole.new w 41 _)
  have hbo : Below w.heap.size w wo := by rw [hwo]; exact (Below.refl _ w).alloc (Nat.le_refl _) _
  have HK := Lib.hid (HK0.out.under hbo)
  have HBO := Lib.hid hbo
  clear hwo hbo
  refine wp_region_last (fun w w' => Below w.heap.size w w') [some 5, some 6, some 7, some 8, some 9, some 10] [isV (.pointer (some ⟨cb, 3, none⟩)), isV (.pointer (some ⟨cb, 3, none⟩)), isV (.pointer (some ⟨cb, 3, none⟩)), isV (v), isV (.agg #[.int .i64 k.a, .int .i64 k.b, .int .i64 k.c]), isV (.int .i64 (-1))] (fun _ w' => Below wo.heap.size wo w') 6 (by kernel_rfl) (by kernel_rfl) (by kernel_rfl) rfl (by decide) rfl rfl ((Below.refl _ _).drew) ⟨lasts_is _, lasts_is _, lasts_is _, lasts_is _, lasts_is _, lasts_is _, trivial⟩ ⟨(fun _ => lastsR_is _), (fun _ => lastsR_is _), (fun _ => lastsR_is _), (fun _ => lastsR_is _), (fun _ => lastsR_is _), (fun _ => lastsR_is _), trivial⟩ ⟨?_, ?_, ?_, ?_, ?_, ?_, ?_⟩
  · intro L a wx Q' hL hi H F hK
    try dsimp only at hi
    have h0 : a.tmps[0]? = some (.pointer (some ⟨cb, 3, none⟩)) := F 0 rfl
    have HI := Lib.hid hi
    clear H F hi hL
    go_wp2_with fail
    exact hK _ _ (Below.refl _ _) HI.out rfl
  · intro L a wx Q' hL hi H F hK
    try dsimp only at hi
    obtain ⟨_, h5, rfl⟩ := H 0 ⟨.data, by simp, rfl⟩ _ rfl
    replace h5 := h5 _ rfl
    have HI := Lib.hid hi
    clear H F hi hL
    go_wp2_with fail
    exact hK _ _ (Below.refl _ _) HI.out rfl
  · intro L a wx Q' hL hi H F hK
    try dsimp only at hi
    obtain ⟨_, h6, rfl⟩ := H 1 ⟨.data, by simp, rfl⟩ _ rfl
    replace h6 := h6 _ rfl
    have HI := Lib.hid hi
    clear H F hi hL
    go_wp2_with fail
    exact hK _ _ (Below.refl _ _) HI.out rfl
  · intro L a wx Q' hL hi H F hK
    try dsimp only at hi
    obtain ⟨_, h7, rfl⟩ := H 2 ⟨.data, by simp, rfl⟩ _ rfl
    replace h7 := h7 _ rfl
    have HI := Lib.hid hi
    clear H F hi hL
    have kq0 : wx.cell? ⟨cb, 3, none⟩ = some (v) := (Whole.under HI.out HW.out (Whole.lt HW.out)).cell 3
    go_wp2_with fail
    exact hK _ _ (Below.refl _ _) HI.out rfl
  · intro L a wx Q' hL hi H F hK
    try dsimp only at hi
    have h3 : a.tmps[3]? = some (.pointer (some ⟨w.heap.size, 0, none⟩)) := F 3 rfl
    have HI := Lib.hid hi
    clear H F hi hL
    have kq0 : wx.cell? ⟨w.heap.size, 0, none⟩ = some (.int .i64 k.a) := (Whole.under HI.out HB0.out (Whole.lt HB0.out)).cell 0
    have kq1 : wx.cell? ⟨w.heap.size, 1, none⟩ = some (.int .i64 k.b) := (Whole.under HI.out HB0.out (Whole.lt HB0.out)).cell 1
    have kq2 : wx.cell? ⟨w.heap.size, 2, none⟩ = some (.int .i64 k.c) := (Whole.under HI.out HB0.out (Whole.lt HB0.out)).cell 2
    go_wp2_with fail
    exact hK _ _ (Below.refl _ _) HI.out rfl
  · intro L a wx Q' hL hi H F hK
    try dsimp only at hi
    obtain ⟨_, h8, rfl⟩ := H 3 ⟨.data, by simp, rfl⟩ _ rfl
    replace h8 := h8 _ rfl
    obtain ⟨_, h9, rfl⟩ := H 4 ⟨.data, by simp, rfl⟩ _ rfl
    replace h9 := h9 _ rfl
    have HI := Lib.hid hi
    clear H F hi hL
    go_wp2_with (go_at_call 42; go_must (refine (index_out _ v ks k (HK.out.under HI.out) HIN.out).mono ?_; rintro e w1 ⟨rfl, hb1⟩))
    exact hK _ _ hb1 (HI.out.trans (hb1.mono HI.out.size)) rfl
  · intro a wx hl L hi hL Q' hK
    try dsimp only at hi
    have HB := Lib.hid hi
    clear hi hL
    obtain ⟨_, rfl, _, rfl, _, rfl, _, rfl, _, rfl, _, rfl, rfl⟩ := hl
    simp only [List.setIfInBounds_toArray, List.set_cons_zero, List.set_cons_succ]
    skip
    go_wp2_with fail
    go_end0
    exact ⟨rfl, (HBO.out.trans (HB.out.mono HBO.out.size))⟩

set_option maxHeartbeats 2000000 in
theorem forget_in (w : World) (cb : Nat) (c0 c1 c2 v c4 c5 c6 c7 : Value) (ks : List Key) (k : Key) (hW : Whole w cb 62 #[c0, c1, c2, v, c4, c5, c6, c7]) (hK : KeysAt w v ks) (hin : k ∈ ks) :
    Calls Try.prog 37 #[.pointer (some ⟨cb, 3, none⟩), .agg #[.int .i64 k.a, .int .i64 k.b, .int .i64 k.c]] w fun e w' => e = .returned (.tuple #[]) ∧ Turned w w' cb c0 c1 c2 v c4 c5 c6 c7 (ks.eraseIdx (ks.idxOf k)) false := by
  have hlt : ks.idxOf k < ks.length := List.idxOf_lt_length_iff.2 hin
  have HIN := Lib.hid hin
  have HLT := Lib.hid hlt
  clear hin hlt
  have HW0 := Lib.hid hW
  have HK0 := Lib.hid hK
  clear hW hK
  go_enter Try.func37, Try.ntmps37
  go_wp2_with fail
  obtain ⟨wo, hwo⟩ : ∃ wo, wo = w.alloc (.cells #[.int .i64 k.a, .int .i64 k.b, .int .i64 k.c] 41) := ⟨_, rfl⟩
  rw [← hwo]
  have HW := Lib.hid (show Whole wo cb 62 #[c0, c1, c2, v, c4, c5, c6, c7] by rw [hwo]; exact HW0.out.alloc _)
  have HB0 := Lib.hid (show Whole wo w.heap.size 41 #[.int .i64 k.a, .int .i64 k.b, .int .i64 k.c] by rw [hwo]; exact Whole.new w 41 _)
  have hbo : Below w.heap.size w wo := by rw [hwo]; exact (Below.refl _ w).alloc (Nat.le_refl _) _
  have HK := Lib.hid (HK0.out.under hbo)
  have HBO := Lib.hid hbo
  clear hwo hbo
  refine wp_region_last (fun w w' => Below w.heap.size w w') [some 5, some 6, some 7, some 8, some 9, some 10] [isV (.pointer (some ⟨cb, 3, none⟩)), isV (.pointer (some ⟨cb, 3, none⟩)), isV (.pointer (some ⟨cb, 3, none⟩)), isV (v), isV (.agg #[.int .i64 k.a, .int .i64 k.b, .int .i64 k.c]), isV (.int .i64 (ks.idxOf k : Nat))] (fun _ w' => Below wo.heap.size wo w') 6 (by kernel_rfl) (by kernel_rfl) (by kernel_rfl) rfl (by decide) rfl rfl ((Below.refl _ _).drew) ⟨lasts_is _, lasts_is _, lasts_is _, lasts_is _, lasts_is _, lasts_is _, trivial⟩ ⟨(fun _ => lastsR_is _), (fun _ => lastsR_is _), (fun _ => lastsR_is _), (fun _ => lastsR_is _), (fun _ => lastsR_is _), (fun _ => lastsR_is _), trivial⟩ ⟨?_, ?_, ?_, ?_, ?_, ?_, ?_⟩
  · intro L a wx Q' hL hi H F hK
    try dsimp only at hi
    have h0 : a.tmps[0]? = some (.pointer (some ⟨cb, 3, none⟩)) := F 0 rfl
    have HI := Lib.hid hi
    clear H F hi hL
    go_wp2_with fail
    exact hK _ _ (Below.refl _ _) HI.out rfl
  · intro L a wx Q' hL hi H F hK
    try dsimp only at hi
    obtain ⟨_, h5, rfl⟩ := H 0 ⟨.data, by simp, rfl⟩ _ rfl
    replace h5 := h5 _ rfl
    have HI := Lib.hid hi
    clear H F hi hL
    go_wp2_with fail
    exact hK _ _ (Below.refl _ _) HI.out rfl
  · intro L a wx Q' hL hi H F hK
    try dsimp only at hi
    obtain ⟨_, h6, rfl⟩ := H 1 ⟨.data, by simp, rfl⟩ _ rfl
    replace h6 := h6 _ rfl
    have HI := Lib.hid hi
    clear H F hi hL
    go_wp2_with fail
    exact hK _ _ (Below.refl _ _) HI.out rfl
  · intro L a wx Q' hL hi H F hK
    try dsimp only at hi
    obtain ⟨_, h7, rfl⟩ := H 2 ⟨.data, by simp, rfl⟩ _ rfl
    replace h7 := h7 _ rfl
    have HI := Lib.hid hi
    clear H F hi hL
    have kq0 : wx.cell? ⟨cb, 3, none⟩ = some (v) := (Whole.under HI.out HW.out (Whole.lt HW.out)).cell 3
    go_wp2_with fail
    exact hK _ _ (Below.refl _ _) HI.out rfl
  · intro L a wx Q' hL hi H F hK
    try dsimp only at hi
    have h3 : a.tmps[3]? = some (.pointer (some ⟨w.heap.size, 0, none⟩)) := F 3 rfl
    have HI := Lib.hid hi
    clear H F hi hL
    have kq0 : wx.cell? ⟨w.heap.size, 0, none⟩ = some (.int .i64 k.a) := (Whole.under HI.out HB0.out (Whole.lt HB0.out)).cell 0
    have kq1 : wx.cell? ⟨w.heap.size, 1, none⟩ = some (.int .i64 k.b) := (Whole.under HI.out HB0.out (Whole.lt HB0.out)).cell 1
    have kq2 : wx.cell? ⟨w.heap.size, 2, none⟩ = some (.int .i64 k.c) := (Whole.under HI.out HB0.out (Whole.lt HB0.out)).cell 2
    go_wp2_with fail
    exact hK _ _ (Below.refl _ _) HI.out rfl
  · intro L a wx Q' hL hi H F hK
    try dsimp only at hi
    obtain ⟨_, h8, rfl⟩ := H 3 ⟨.data, by simp, rfl⟩ _ rfl
    replace h8 := h8 _ rfl
    obtain ⟨_, h9, rfl⟩ := H 4 ⟨.data, by simp, rfl⟩ _ rfl
    replace h9 := h9 _ rfl
    have HI := Lib.hid hi
    clear H F hi hL
    go_wp2_with (go_at_call 42; go_must (refine (index_in _ v ks k (HK.out.under HI.out) _ HIN.out rfl).mono ?_; rintro e w1 ⟨rfl, hb1⟩))
    exact hK _ _ hb1 (HI.out.trans (hb1.mono HI.out.size)) rfl
  · intro a wx hl L hi hL Q' hK
    try dsimp only at hi
    have HB := Lib.hid hi
    clear hi hL
    obtain ⟨_, rfl, _, rfl, _, rfl, _, rfl, _, rfl, _, rfl, rfl⟩ := hl
    simp only [List.setIfInBounds_toArray, List.set_cons_zero, List.set_cons_succ]
    skip
    have HWX := Lib.hid (Whole.under HB.out HW.out (Whole.lt HW.out))
    have HKX := Lib.hid (HK.out.under HB.out)
    have HBX := Lib.hid (HBO.out.trans (HB.out.mono HBO.out.size))
    have HNX := Lib.hid (HKX.out.far HWX.out (by decide))
    clear HW HK HB HB0 HBO HIN HW0 HK0
    obtain ⟨g, cap, cur, rfl, hg, hle, h1, hcap, hcur, hcs⟩ := HKX.out.resolve_left (by rintro ⟨-, h⟩; have := HLT.out; rw [h] at this; cases this)
    have hv3 := (HWX.out.cell 3)
    obtain ⟨n, hn⟩ : ∃ n, n = ks.idxOf k := ⟨_, rfl⟩
    rw [← hn] at HLT ⊢
    have HN := Lib.hid hn
    have hgc : g ≠ cb := fun e => HNX.out (by rw [e]; rfl)
    have HGC := Lib.hid hgc
    have HS := Lib.hid (show _ from fun (h : cap ≤ 9223372036854775807) => delete_at wx g cap n cur ks hg HLT.out hle h hcur hcs)
    have hb3 : IntKind.i64.wrap ((n : Int) + 1) = (n : Int) + 1 := IntWalk.i64_in _ (by have := HLT.out; unfold maxLen at hcap; omega)
    have HC := Lib.hid hcap
    have HLE := Lib.hid (And.intro hle h1)
    clear hn hle hcur hcs hg hcap hgc h1 HKX
    go_wp2_with (first | (go_at_call 43; go_must (refine (HS.out (by have := HC.out; unfold maxLen at this; omega)).mono ?_; rintro e w2 ⟨rfl, hs2, cur', hw2, hz2, ht2⟩; have HR := Lib.hid (And.intro hs2 (And.intro hw2 (And.intro hz2 ht2))); have HW2 := Lib.hid (hs2.whole (show Whole wx.drew cb 62 _ from HWX.out) (Ne.symm HGC.out)); clear hs2 hw2 hz2 ht2)) | (refine wpList_store_blk rfl 26 _ _ rfl cb 3 (.slice _ _ _) rfl rfl 62 _ HW2.out (by simp [Value.cells]) size26 rfl ?_; intro w3 S3 W3; have HS3 := Lib.hid S3; rw [splice_keys] at W3; have HW3 := Lib.hid W3; clear S3 W3))
    go_end0
    obtain ⟨hs2, hw2, hz2, ht2⟩ := HR.out
    have hl : (ks.eraseIdx n).length = ks.length - 1 := by rw [List.length_eraseIdx, if_pos HLT.out]
    rw [← HN.out]
    refine ⟨rfl, _, HW3.out, .inr ⟨g, cap, cur', by rw [hl], HS3.out.whole hw2 HGC.out, by rw [hl]; have := HLT.out; have := HLE.out; omega, HLE.out.2, HC.out, hz2, by rw [hl]; exact ht2⟩, .inl rfl, ?_⟩
    exact (Tch.of_below HBX.out (Nat.le_refl _)).trans ((Tch.of_sto hs2 (.inr rfl)).drew.trans (Tch.of_sto HS3.out (.inl rfl)))

theorem erase_idx : ∀ (ks : List Key) (k : Key), ks.eraseIdx (ks.idxOf k) = ks.erase k
  | [], _ => rfl
  | x :: ks, k => by
    by_cases h : x = k
    · subst h; simp
    · have hb : (x == k) = false := by simpa using h
      rw [List.idxOf_cons, hb, List.erase_cons, if_neg (by simpa using h)]
      simp [erase_idx ks k]

theorem forget_any (w : World) (cb : Nat) (c0 c1 c2 v c4 c5 c6 c7 : Value) (ks : List Key) (k : Key) (hW : Whole w cb 62 #[c0, c1, c2, v, c4, c5, c6, c7]) (hK : KeysAt w v ks) :
    Calls Try.prog 37 #[.pointer (some ⟨cb, 3, none⟩), .agg #[.int .i64 k.a, .int .i64 k.b, .int .i64 k.c]] w fun e w' => e = .returned (.tuple #[]) ∧ Turned w w' cb c0 c1 c2 v c4 c5 c6 c7 (ks.erase k) false := by
  by_cases hin : k ∈ ks
  · rw [← erase_idx]
    exact forget_in w cb c0 c1 c2 v c4 c5 c6 c7 ks k hW hK hin
  · rw [List.erase_of_not_mem hin]
    refine (forget_out w cb c0 c1 c2 v c4 c5 c6 c7 ks k hW hK hin).mono ?_
    rintro e w' ⟨rfl, hb⟩
    exact ⟨rfl, v, Whole.under hb hW hW.lt, hK.under hb, .inl rfl, Tch.of_below hb (Nat.le_refl _)⟩

/-- What holds ahead of, and behind, the one operation of a region that turns blocks of F. -/
def InvM (F : Nat → Prop) (w : World) : Bool → World → Prop
  | false, w' => Below w.heap.size w w'
  | true, w' => Tch w w' F
theorem InvM.tch {F : Nat → Prop} {w w' : World} {b : Bool} (h : InvM F w b w') : Tch w w' F := by
  cases b
  · exact Tch.of_below h (Nat.le_refl _)
  · exact h
theorem InvM.below {F : Nat → Prop} {w w1 w2 : World} {b : Bool} (h : InvM F w b w1) (hb : Below w1.heap.size w1 w2) : InvM F w b w2 := by
  cases b
  · exact Below.trans h (hb.mono h.size)
  · exact Tch.trans h (Tch.of_below hb (Nat.le_refl _))

def SliceOf (N : Nat) (k : Key) (u : Value) (w : World) : Prop := ∃ b, u = .slice (some ⟨b, 0, none⟩) 1 1 ∧ N ≤ b ∧ Whole w b 41 k.cells.toArray
def KeysNew (w1 : World) (v1 : Value) (ks : List Key) (u : Value) (w : World) : Prop := (u.ownBlock = v1.ownBlock ∨ ∃ g, u.ownBlock = some g ∧ w1.heap.size ≤ g) ∧ (∃ g n c, u = .slice (some ⟨g, 0, none⟩) n c) ∧ KeysAt w u ks
theorem ks_shape {w : World} {u : Value} {k : Key} {ks : List Key} (h : KeysAt w u (k :: ks)) : ∃ g n c, u = .slice (some ⟨g, 0, none⟩) n c := by
  rcases h with ⟨_, h⟩ | ⟨g, cap, cur, rfl, _⟩
  · cases h
  · exact ⟨g, _, cap, rfl⟩

set_option maxHeartbeats 2000000 in
theorem use_any (w : World) (cb : Nat) (c0 c1 c2 v c4 c5 c6 c7 : Value) (ks : List Key) (k : Key) (hW : Whole w cb 62 #[c0, c1, c2, v, c4, c5, c6, c7]) (hK : KeysAt w v ks) (hbig : ks.length ≤ 90000) :
    Calls Try.prog 35 #[.pointer (some ⟨cb, 3, none⟩), .agg #[.int .i64 k.a, .int .i64 k.b, .int .i64 k.c]] w fun e w' => e = .returned (.tuple #[]) ∧ Turned w w' cb c0 c1 c2 v c4 c5 c6 c7 (k :: ks.erase k) true := by
  have hbig' : (ks.erase k).length ≤ 90000 := by have := List.length_erase_le (a := k) (l := ks); omega
  have HBIG := Lib.hid hbig'
  clear hbig hbig'
  have HW0 := Lib.hid hW
  have HK0 := Lib.hid hK
  clear hW hK
  go_enter Try.func35, Try.ntmps35
  go_wp2_with fail
  obtain ⟨wo, hwo⟩ : ∃ wo, wo = w.alloc (.cells #[.int .i64 k.a, .int .i64 k.b, .int .i64 k.c] 41) := ⟨_, rfl⟩
  rw [← hwo]
  have HW := Lib.hid (show Whole wo cb 62 #[c0, c1, c2, v, c4, c5, c6, c7] by rw [hwo]; exact HW0.out.alloc _)
  have HB0 := Lib.hid (show Whole wo w.heap.size 41 #[.int .i64 k.a, .int .i64 k.b, .int .i64 k.c] by rw [hwo]; exact Whole.new w 41 _)
  have hbo : Below w.heap.size w wo := by rw [hwo]; exact (Below.refl _ w).alloc (Nat.le_refl _) _
  have HK := Lib.hid (HK0.out.under hbo)
  have HBO := Lib.hid hbo
  clear hwo hbo
  obtain ⟨kq0, kq1, kq2⟩ : wo.cell? ⟨w.heap.size, 0, none⟩ = some (.int .i64 k.a) ∧ wo.cell? ⟨w.heap.size, 1, none⟩ = some (.int .i64 k.b) ∧ wo.cell? ⟨w.heap.size, 2, none⟩ = some (.int .i64 k.c) := ⟨HB0.out.cell 0, HB0.out.cell 1, HB0.out.cell 2⟩
  go_wp2_with (go_at_call 37; go_must (refine (forget_any wo cb c0 c1 c2 v c4 c5 c6 c7 ks k HW.out HK.out).mono ?_; rintro e w1 ⟨rfl, v1, hw1, hk1, ho1, ht1⟩; have HR := Lib.hid (And.intro hw1 (And.intro hk1 (And.intro ho1 ht1))); clear hw1 hk1 ho1 ht1 kq0 kq1 kq2))
  have HW1 := Lib.hid HR.out.1
  have HK1 := Lib.hid HR.out.2.1
  have HO1 := Lib.hid (show v1.ownBlock = v.ownBlock from HR.out.2.2.1.resolve_right (by rintro ⟨h, _⟩; cases h))
  have HT1 := Lib.hid HR.out.2.2.2
  clear HR
  have HN1 := Lib.hid (show ¬ v1.ownBlock = some cb from HK1.out.far HW1.out (by decide))
  have hnw : ¬ (w.heap.size = cb ∨ v.ownBlock = some w.heap.size) := by
    rintro (h | h)
    · have := HW0.out.lt; omega
    · have := HK0.out.lt _ h; omega
  have HB1 := Lib.hid (HT1.out.whole HB0.out hnw)
  have HNB := Lib.hid (show ¬ v1.ownBlock = some w.heap.size from by rw [HO1.out]; exact fun h => hnw (.inr h))
  clear hnw
  refine wp_region_last (fun w w' => Tch w w' (fun i => v1.ownBlock = some i)) [some 7, some 8, some 9, some 10, some 11, some 12, some 13, some 14, some 15, some 16] [isV (.pointer (some ⟨cb, 3, none⟩)), isV (.pointer (some ⟨cb, 3, none⟩)), isV (.pointer (some ⟨cb, 3, none⟩)), isV (.pointer (some ⟨cb, 3, none⟩)), isV (v1), isV (.agg #[.int .i64 k.a, .int .i64 k.b, .int .i64 k.c]), SliceOf w1.heap.size k, KeysNew w1 v1 (k :: ks.erase k), isV (.pointer (some ⟨cb, 3, none⟩)), isV (.pointer (some ⟨cb, 3, none⟩))] (fun L w' => InvM (fun i => v1.ownBlock = some i) w1 (L 7) w') 7 (by kernel_rfl) (by kernel_rfl) (by kernel_rfl) rfl (by decide) rfl rfl ((Below.refl _ _).drew) ⟨lasts_is _, lasts_is _, lasts_is _, lasts_is _, lasts_is _, lasts_is _, (fun u wa wb ⟨b, h1, h2, h3⟩ hb => ⟨b, h1, h2, Whole.under hb h3 (Whole.lt h3)⟩), (fun u wa wb h hb => ⟨h.1, h.2.1, h.2.2.under hb⟩), lasts_is _, lasts_is _, trivial⟩ ⟨(fun _ => lastsR_is _), (fun _ => lastsR_is _), (fun _ => lastsR_is _), (fun _ => lastsR_is _), (fun _ => lastsR_is _), (fun _ => lastsR_is _), (fun _ => (fun u wa wb ⟨b, h1, h2, h3⟩ ht => ⟨b, h1, h2, ht.whole h3 fun h => absurd (HK1.out.lt _ h) (by omega)⟩)), (fun h => absurd rfl h), (fun _ => lastsR_is _), (fun _ => lastsR_is _), trivial⟩ ⟨?_, ?_, ?_, ?_, ?_, ?_, ?_, ?_, ?_, ?_, ?_⟩
  · intro L a wx Q' hL hi H F hK
    try dsimp only at hi
    have h0 : a.tmps[0]? = some (.pointer (some ⟨cb, 3, none⟩)) := F 0 rfl
    have HI := Lib.hid hi
    clear H F hi hL
    go_wp2_with fail
    exact hK _ _ (Below.refl _ _) HI.out rfl
  · intro L a wx Q' hL hi H F hK
    try dsimp only at hi
    have h0 : a.tmps[0]? = some (.pointer (some ⟨cb, 3, none⟩)) := F 0 rfl
    have HI := Lib.hid hi
    clear H F hi hL
    go_wp2_with fail
    exact hK _ _ (Below.refl _ _) HI.out rfl
  · intro L a wx Q' hL hi H F hK
    try dsimp only at hi
    obtain ⟨_, h8, rfl⟩ := H 1 ⟨.data, by simp, rfl⟩ _ rfl
    replace h8 := h8 _ rfl
    have HI := Lib.hid hi
    clear H F hi hL
    go_wp2_with fail
    exact hK _ _ (Below.refl _ _) HI.out rfl
  · intro L a wx Q' hL hi H F hK
    try dsimp only at hi
    obtain ⟨_, h9, rfl⟩ := H 2 ⟨.data, by simp, rfl⟩ _ rfl
    replace h9 := h9 _ rfl
    have HI := Lib.hid hi
    clear H F hi hL
    go_wp2_with fail
    exact hK _ _ (Below.refl _ _) HI.out rfl
  · intro L a wx Q' hL hi H F hK
    try dsimp only at hi
    obtain ⟨_, h10, rfl⟩ := H 3 ⟨.data, by simp, rfl⟩ _ rfl
    replace h10 := h10 _ rfl
    have HI := Lib.hid hi
    clear H F hi hL
    have kq0 : wx.cell? ⟨cb, 3, none⟩ = some (v1) := (HI.out.tch.whole HW1.out HN1.out).cell 3
    go_wp2_with fail
    exact hK _ _ (Below.refl _ _) HI.out rfl
  · intro L a wx Q' hL hi H F hK
    try dsimp only at hi
    have h3 : a.tmps[3]? = some (.pointer (some ⟨w.heap.size, 0, none⟩)) := F 3 rfl
    have HI := Lib.hid hi
    clear H F hi hL
    have kq0 : wx.cell? ⟨w.heap.size, 0, none⟩ = some (.int .i64 k.a) := (HI.out.tch.whole HB1.out HNB.out).cell 0
    have kq1 : wx.cell? ⟨w.heap.size, 1, none⟩ = some (.int .i64 k.b) := (HI.out.tch.whole HB1.out HNB.out).cell 1
    have kq2 : wx.cell? ⟨w.heap.size, 2, none⟩ = some (.int .i64 k.c) := (HI.out.tch.whole HB1.out HNB.out).cell 2
    go_wp2_with fail
    exact hK _ _ (Below.refl _ _) HI.out rfl
  · intro L a wx Q' hL hi H F hK
    try dsimp only at hi
    obtain ⟨_, h12, rfl⟩ := H 5 ⟨.data, by simp, rfl⟩ _ rfl
    replace h12 := h12 _ rfl
    have HI := Lib.hid hi
    clear H F hi hL
    go_wp2_with fail
    exact hK _ _ ((Below.refl _ _).alloc (Nat.le_refl _) _) (HI.out.below ((Below.refl _ _).alloc (Nat.le_refl _) _)) ⟨wx.heap.size, rfl, HI.out.tch.size, Whole.new wx 41 _⟩
  · intro L a wx Q' hL hi H F hK
    try dsimp only at hi
    obtain ⟨_, h11, rfl⟩ := H 4 ⟨.data, by simp, rfl⟩ _ rfl
    replace h11 := h11 _ rfl
    obtain ⟨v13, h13, hv13⟩ := H 6 ⟨.data, by simp, rfl⟩ _ rfl
    replace h13 := h13 _ rfl
    have HV13 := Lib.hid hv13
    clear hv13
    have HI := Lib.hid hi
    clear H F hi
    have HIB := Lib.hid (show Below w1.heap.size w1 wx from by have := HI.out; rw [hL] at this; exact this)
    obtain ⟨sb, rfl, hsb1, hsb2⟩ := HV13.out
    have HS1 := Lib.hid hsb1
    have HS2 := Lib.hid hsb2
    clear HV13 hsb1 hsb2 hL HI
    go_wp2_with (go_at_call 41; go_must (refine (insert_any _ v1 sb (ks.erase k) k (HK1.out.under HIB.out) (by have := HBIG.out; omega) HS2.out (fun h => absurd (HK1.out.lt _ h) (by have := HS1.out; omega))).mono ?_; rintro e w2 ⟨v2, rfl, hk2, ht2, ho2⟩; have HR2 := Lib.hid (And.intro hk2 (And.intro ht2 ho2)); clear hk2 ht2 ho2))
    obtain ⟨hk2, ht2, ho2⟩ := HR2.out
    have hT : Tch wx w2 (fun i => v1.ownBlock = some i) := Tch.of_grown ht2 (fun g hg => hg)
    exact hK _ _ hT ((Tch.of_below HIB.out (Nat.le_refl _)).trans hT) ⟨ho2.imp id fun ⟨g, h1, h2⟩ => ⟨g, h1, Nat.le_trans HIB.out.size h2⟩, ks_shape hk2, hk2⟩
  · intro L a wx Q' hL hi H F hK
    try dsimp only at hi
    obtain ⟨_, h7, rfl⟩ := H 0 ⟨.data, by simp, rfl⟩ _ rfl
    replace h7 := h7 _ rfl
    have HI := Lib.hid hi
    clear H F hi hL
    go_wp2_with fail
    exact hK _ _ (Below.refl _ _) HI.out rfl
  · intro L a wx Q' hL hi H F hK
    try dsimp only at hi
    obtain ⟨_, h15, rfl⟩ := H 8 ⟨.data, by simp, rfl⟩ _ rfl
    replace h15 := h15 _ rfl
    have HI := Lib.hid hi
    clear H F hi hL
    go_wp2_with fail
    exact hK _ _ (Below.refl _ _) HI.out rfl
  · intro a wx hl L hi hL Q' hK
    try dsimp only at hi
    have HB := Lib.hid hi
    have HL := Lib.hid hL
    clear hi hL
    obtain ⟨_, rfl, _, rfl, _, rfl, _, rfl, _, rfl, _, rfl, u13, hu13, u14, hu14, _, rfl, _, rfl, rfl⟩ := hl
    have HU13 := Lib.hid hu13
    clear hu13
    have HU14 := Lib.hid hu14
    clear hu14
    simp only [List.setIfInBounds_toArray, List.set_cons_zero, List.set_cons_succ]
    skip
    have HV := Lib.hid (show Tch w1 wx _ from HB.out.tch)
    clear HL
    obtain ⟨hu1, ⟨ug, un, uc, rfl⟩, hu2⟩ := HU14.out
    have HWX := Lib.hid (HV.out.whole HW1.out HN1.out)
    clear HU13 HB
    have HU := Lib.hid (And.intro hu1 hu2)
    clear HU14 hu1 hu2
    go_wp2_with (refine wpList_store_blk rfl 26 _ _ rfl cb 3 (.slice _ _ _) rfl rfl 62 _ HWX.out (by simp [Value.cells]) size26 rfl ?_; intro w3 S3 W3; have HS3 := Lib.hid S3; rw [splice_keys] at W3; have HW3 := Lib.hid W3; clear S3 W3)
    go_end0
    have hfar := HU.out.2.far HWX.out (by decide)
    refine ⟨rfl, _, HW3.out, HU.out.2.tch (Tch.of_sto HS3.out (F := fun i => i = cb) rfl) (fun g hg e => hfar (by rw [hg, e])), ?_, ?_⟩
    · rcases HU.out.1 with h | ⟨g, h1, h2⟩
      · exact .inl (h.trans HO1.out)
      · exact .inr ⟨rfl, g, h1, Nat.le_trans (Nat.le_trans HBO.out.size HT1.out.size) h2⟩
    · refine (Tch.of_below HBO.out (Nat.le_refl _)).trans (HT1.out.trans ((HV.out.mono fun i hi => .inl (.inr ?_)).trans (Tch.of_sto HS3.out (.inl rfl))))
      rw [← HO1.out]
      exact hi

end Go.Proofs.Ytcdhjcjdphnleaa
