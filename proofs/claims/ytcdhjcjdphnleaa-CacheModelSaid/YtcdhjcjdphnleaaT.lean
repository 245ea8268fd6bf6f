import Derived.Test.YtcdhjcjdphnleaaP
import Derived.Lib.SliceRun
namespace Go.Proofs.Ytcdhjcjdphnleaa
open Go Go.WideMaps Go.RowKit

set_option maxHeartbeats 2000000 in
theorem oldest_any (w : World) (cb : Nat) (c0 c1 c2 v c4 c5 c6 c7 : Value) (ks : List Key) (k : Key) (hW : Whole w cb 62 #[c0, c1, c2, v, c4, c5, c6, c7]) (hK : KeysAt w v (ks ++ [k])) :
    Calls Try.prog 36 #[.pointer (some ⟨cb, 3, none⟩)] w fun e w' => e = .returned (.agg #[.int .i64 k.a, .int .i64 k.b, .int .i64 k.c]) ∧ Below w.heap.size w w' := by
  rcases hK with ⟨_, h⟩ | ⟨g, cap, cur, rfl, hg, hle, h1, hcap, hcur, hcs⟩
  · simp at h
  obtain ⟨k0, k1, k2⟩ := key_cells (i := ks.length) (y := k) hg hcs (by simp)
  have hl : (ks ++ [k]).length = ks.length + 1 := by simp
  rw [hl] at hle hW
  unfold maxLen at hcap
  obtain ⟨n, hn⟩ : ∃ n, n = ks.length := ⟨_, rfl⟩
  rw [← hn] at hle hW k0 k1 k2
  have hq0 : w.cell? ⟨cb, 3, none⟩ = some (.slice (some ⟨g, 0, none⟩) (n + 1) cap) := hW.cell 3
  have hcl : cb < w.heap.size := hW.lt
  have hgl : g < w.heap.size := hg.lt
  have hnb : (n : Int) ≤ 9223372036854775806 := by omega
  clear hn hl hcs hcur hle h1 hcap hg
  clear hW
  obtain ⟨o, ho⟩ : ∃ o : Obj, o = .cells #[.int .i64 0, .int .i64 0, .int .i64 0] 41 := ⟨_, rfl⟩
  have hz0 : (w.alloc (.cells #[.int .i64 0, .int .i64 0, .int .i64 0] 41)).cell? ⟨cb, 3, none⟩ = some (.slice (some ⟨g, 0, none⟩) (n + 1) cap) := Lib.cell?_alloc_some _ hq0
  have hz1 : (w.alloc (.cells #[.int .i64 0, .int .i64 0, .int .i64 0] 41)).cell? ⟨g, n * 3, none⟩ = some (.int .i64 k.a) := Lib.cell?_alloc_some _ k0
  have hz2 : (w.alloc (.cells #[.int .i64 0, .int .i64 0, .int .i64 0] 41)).cell? ⟨g, n * 3 + 1, none⟩ = some (.int .i64 k.b) := Lib.cell?_alloc_some _ k1
  have hz3 : (w.alloc (.cells #[.int .i64 0, .int .i64 0, .int .i64 0] 41)).cell? ⟨g, n * 3 + 2, none⟩ = some (.int .i64 k.c) := Lib.cell?_alloc_some _ k2
  have HN := Lib.hid (Whole.new w 41 #[.int .i64 0, .int .i64 0, .int .i64 0])
  clear k0 k1 k2 hq0 ho
  go_enter Try.func36, Try.ntmps36
  go_wp2_with fail
  refine wp_region_last (fun w w' => Below w.heap.size w w') [some 3, some 4, some 5, some 6, some 7, some 8, some 9, some 10, some 11, some 12, some 13, some 14] [isV (.pointer (some ⟨cb, 3, none⟩)), isV (.pointer (some ⟨cb, 3, none⟩)), isV (.pointer (some ⟨cb, 3, none⟩)), isV (.slice (some ⟨g, 0, none⟩) (n + 1) cap), isV (.pointer (some ⟨cb, 3, none⟩)), isV (.pointer (some ⟨cb, 3, none⟩)), isV (.pointer (some ⟨cb, 3, none⟩)), isV (.slice (some ⟨g, 0, none⟩) (n + 1) cap), isV (.int .i64 ((n : Int) + 1)), isV (.int .i64 (n : Int)), isV (.pointer (some ⟨g, n * 3, none⟩)), isV (.agg #[.int .i64 k.a, .int .i64 k.b, .int .i64 k.c])] (fun _ w' => Below (w.alloc (.cells #[.int .i64 0, .int .i64 0, .int .i64 0] 41)).heap.size (w.alloc (.cells #[.int .i64 0, .int .i64 0, .int .i64 0] 41)) w') 12 (by kernel_rfl) (by kernel_rfl) (by kernel_rfl) rfl (by decide) rfl rfl ((Below.refl _ _).drew) ⟨lasts_is _, lasts_is _, lasts_is _, lasts_is _, lasts_is _, lasts_is _, lasts_is _, lasts_is _, lasts_is _, lasts_is _, lasts_is _, lasts_is _, trivial⟩ ⟨(fun _ => lastsR_is _), (fun _ => lastsR_is _), (fun _ => lastsR_is _), (fun _ => lastsR_is _), (fun _ => lastsR_is _), (fun _ => lastsR_is _), (fun _ => lastsR_is _), (fun _ => lastsR_is _), (fun _ => lastsR_is _), (fun _ => lastsR_is _), (fun _ => lastsR_is _), (fun _ => lastsR_is _), trivial⟩ ⟨?_, ?_, ?_, ?_, ?_, ?_, ?_, ?_, ?_, ?_, ?_, ?_, ?_⟩
  · intro L a wx Q' hL hi H F hK
    try dsimp only at hi
    have h0 : a.tmps[0]? = some (.pointer (some ⟨cb, 3, none⟩)) := F 0 rfl
    have HI := Lib.hid hi
    clear H F hi hL
    go_wp2_with fail
    exact hK _ _ (Below.refl _ _) HI.out rfl
  · intro L a wx Q' hL hi H F hK
    try dsimp only at hi
    obtain ⟨_, h3, rfl⟩ := H 0 ⟨.data, by simp, rfl⟩ _ rfl
    replace h3 := h3 _ rfl
    have HI := Lib.hid hi
    clear H F hi hL
    go_wp2_with fail
    exact hK _ _ (Below.refl _ _) HI.out rfl
  · intro L a wx Q' hL hi H F hK
    try dsimp only at hi
    obtain ⟨_, h4, rfl⟩ := H 1 ⟨.data, by simp, rfl⟩ _ rfl
    replace h4 := h4 _ rfl
    have HI := Lib.hid hi
    clear H F hi hL
    go_wp2_with fail
    exact hK _ _ (Below.refl _ _) HI.out rfl
  · intro L a wx Q' hL hi H F hK
    try dsimp only at hi
    obtain ⟨_, h5, rfl⟩ := H 2 ⟨.data, by simp, rfl⟩ _ rfl
    replace h5 := h5 _ rfl
    have HI := Lib.hid hi
    clear H F hi hL
    have kq : wx.cell? ⟨cb, 3, none⟩ = some (.slice (some ⟨g, 0, none⟩) (n + 1) cap) := cell_later HI.out hz0
    go_wp2_with fail
    exact hK _ _ (Below.refl _ _) HI.out rfl
  · intro L a wx Q' hL hi H F hK
    try dsimp only at hi
    have h0 : a.tmps[0]? = some (.pointer (some ⟨cb, 3, none⟩)) := F 0 rfl
    have HI := Lib.hid hi
    clear H F hi hL
    go_wp2_with fail
    exact hK _ _ (Below.refl _ _) HI.out rfl
  · intro L a wx Q' hL hi H F hK
    try dsimp only at hi
    obtain ⟨_, h7, rfl⟩ := H 4 ⟨.data, by simp, rfl⟩ _ rfl
    replace h7 := h7 _ rfl
    have HI := Lib.hid hi
    clear H F hi hL
    go_wp2_with fail
    exact hK _ _ (Below.refl _ _) HI.out rfl
  · intro L a wx Q' hL hi H F hK
    try dsimp only at hi
    obtain ⟨_, h8, rfl⟩ := H 5 ⟨.data, by simp, rfl⟩ _ rfl
    replace h8 := h8 _ rfl
    have HI := Lib.hid hi
    clear H F hi hL
    go_wp2_with fail
    exact hK _ _ (Below.refl _ _) HI.out rfl
  · intro L a wx Q' hL hi H F hK
    try dsimp only at hi
    obtain ⟨_, h9, rfl⟩ := H 6 ⟨.data, by simp, rfl⟩ _ rfl
    replace h9 := h9 _ rfl
    have HI := Lib.hid hi
    clear H F hi hL
    have kq : wx.cell? ⟨cb, 3, none⟩ = some (.slice (some ⟨g, 0, none⟩) (n + 1) cap) := cell_later HI.out hz0
    go_wp2_with fail
    exact hK _ _ (Below.refl _ _) HI.out rfl
  · intro L a wx Q' hL hi H F hK
    try dsimp only at hi
    obtain ⟨_, h10, rfl⟩ := H 7 ⟨.data, by simp, rfl⟩ _ rfl
    replace h10 := h10 _ rfl
    have HI := Lib.hid hi
    clear H F hi hL
    go_wp2_with fail
    exact hK _ _ (Below.refl _ _) HI.out rfl
  · intro L a wx Q' hL hi H F hK
    try dsimp only at hi
    obtain ⟨_, h11, rfl⟩ := H 8 ⟨.data, by simp, rfl⟩ _ rfl
    replace h11 := h11 _ rfl
    have HI := Lib.hid hi
    clear H F hi hL
    go_wp2_with fail
    exact hK _ _ (Below.refl _ _) HI.out rfl
  · intro L a wx Q' hL hi H F hK
    try dsimp only at hi
    obtain ⟨_, h6, rfl⟩ := H 3 ⟨.data, by simp, rfl⟩ _ rfl
    replace h6 := h6 _ rfl
    obtain ⟨_, h12, rfl⟩ := H 9 ⟨.data, by simp, rfl⟩ _ rfl
    replace h12 := h12 _ rfl
    have HI := Lib.hid hi
    clear H F hi hL
    go_wp2_with fail
    exact hK _ _ (Below.refl _ _) HI.out rfl
  · intro L a wx Q' hL hi H F hK
    try dsimp only at hi
    obtain ⟨_, h13, rfl⟩ := H 10 ⟨.data, by simp, rfl⟩ _ rfl
    replace h13 := h13 _ rfl
    have HI := Lib.hid hi
    clear H F hi hL
    have kq1 : wx.cell? ⟨g, n * 3, none⟩ = some (.int .i64 k.a) := cell_later HI.out hz1
    have kq2 : wx.cell? ⟨g, n * 3 + 1, none⟩ = some (.int .i64 k.b) := cell_later HI.out hz2
    have kq3 : wx.cell? ⟨g, n * 3 + 2, none⟩ = some (.int .i64 k.c) := cell_later HI.out hz3
    go_wp2_with fail
    exact hK _ _ (Below.refl _ _) HI.out rfl
  · intro a wx hl L hi hL Q' hK
    try dsimp only at hi
    have HB := Lib.hid hi
    clear hi hL
    obtain ⟨_, rfl, _, rfl, _, rfl, _, rfl, _, rfl, _, rfl, _, rfl, _, rfl, _, rfl, _, rfl, _, rfl, _, rfl, rfl⟩ := hl
    simp only [List.setIfInBounds_toArray, List.set_cons_zero, List.set_cons_succ]
    skip
    go_wp2_with (refine wpList_store_blk rfl 41 _ _ rfl w.heap.size 0 (.agg #[.int .i64 k.a, .int .i64 k.b, .int .i64 k.c]) rfl rfl 41 _ (Whole.under HB.out HN.out (Whole.lt HN.out)) (by simp [Value.cells]) sz41 rfl ?_; intro w3 S3 W3; have HS3 := Lib.hid S3; have HW3 := Lib.hid W3; clear S3 W3)
    have d0 : w3.cell? ⟨w.heap.size, 0, none⟩ = some (.int .i64 k.a) := HW3.out.cell 0
    have d1 : w3.cell? ⟨w.heap.size, 1, none⟩ = some (.int .i64 k.b) := HW3.out.cell 1
    have d2 : w3.cell? ⟨w.heap.size, 2, none⟩ = some (.int .i64 k.c) := HW3.out.cell 2
    refine bodyPost_ret (v := .agg #[.int .i64 k.a, .int .i64 k.b, .int .i64 k.c]) ?_ rfl ⟨rfl, (below_of_alloc (HB.out.mono (by simp))).trans (HS3.out.below (Nat.le_refl _))⟩
    simp [results, Try.results36, go_sem, d0, d1, d2]

end Go.Proofs.Ytcdhjcjdphnleaa
