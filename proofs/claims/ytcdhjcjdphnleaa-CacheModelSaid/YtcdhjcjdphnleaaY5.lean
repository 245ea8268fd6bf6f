import Derived.Test.YtcdhjcjdphnleaaX
namespace Go.Proofs.Ytcdhjcjdphnleaa
open Go Go.WideMaps Go.RowKit

theorem size62 : (Try.prog.info? 62).map (·.size) = some 8 := by kernel_rfl

/-- The copy under way: block r is the range, the new map holds what has been read. -/
def Copying (w wr : World) (mb r nb nm : Nat) (s : St) (cs : Array Value) (left : List (Value × Value)) : Prop :=
  ∃ E, Ranging wr Try.prog 41 mb r (ents s.D) left ∧ MapAt wr Try.prog 41 nm E ∧ (ents s.D).Perm (left ++ E) ∧ Whole wr nb 62 cs ∧ Below w.heap.size w wr

theorem copying_next {s : St} {E left left' : List (Value × Value)} {key val : Value}
    (hp : (ents s.D).Perm (left ++ E)) (hl : left.Perm ((key, val) :: left')) : (ents s.D).Perm (left' ++ (key, val) :: E) := by
  refine hp.trans ((hl.append_right E).trans ?_)
  exact (List.perm_middle (a := (key, val)) (l₁ := left') (l₂ := E)).symm

theorem copy_fresh {D : List (Value × Value)} {E left : List (Value × Value)} {key val : Value} (hn : (D.map Prod.fst).Nodup) (hp : D.Perm (left ++ (key, val) :: E)) : ∀ p ∈ E, p.1 ≠ key := by
  have h1 := (hp.map Prod.fst).nodup_iff.1 hn
  rw [List.map_append, List.map_cons, List.nodup_append] at h1
  intro p hp' e
  exact (List.nodup_cons.1 h1.2.1).1 (List.mem_map.2 ⟨p, hp', e⟩)
theorem copy_b6 {wn w5 w6 : World} {o1 o2 : Obj} (h5 : Sto ((wn.alloc o1).alloc o2) w5 wn.heap.size) (h6 : Sto w5 w6 (wn.heap.size + 1)) : Below wn.heap.size wn w6 :=
  ((((Below.refl _ wn).alloc (Nat.le_refl _) _).alloc (by simp) _).trans (h5.below (Nat.le_refl _))).trans (h6.below (by omega))
theorem Below.of_grown {w w' : World} {B : Nat} (h : w.grownBy w' none) (hB : B ≤ w.heap.size) : Below B w w' := (Tch.of_grown h (F := fun _ => False) (fun g e => by cases e)).below (fun _ => False.elim) hB

theorem keys_form {w : World} {v : Value} {ks : List Key} (h : KeysAt w v ks) : ∃ a n c, v = .slice a n c := by
  rcases h with ⟨rfl, _⟩ | ⟨g, cap, cur, rfl, _⟩
  · exact ⟨_, _, _, rfl⟩
  · exact ⟨_, _, _, rfl⟩
theorem copy_len {w : World} {mb : Nat} {D : List (Key × Dec)} (h : MapAt w Try.prog 41 mb (ents D)) (ty : TypeId) : (Builtin.len_ #[57] ty #[.map (some mb)]).run Try.prog w = .ok (.int .i64 D.length) w := by
  have := MapAt.len h Try.underlying57 ty
  rwa [ents_length] at this

set_option maxRecDepth 100000 in
set_option maxHeartbeats 4000000 in
theorem copy_any (w : World) (cb : Nat) (F : Nat → Prop) (s : St) (h : Cache w cb F s) : Calls Try.prog 19 #[.pointer (some ⟨cb, 0, none⟩)] w fun e w' =>
    ∃ kb G, e = .returned (.pointer (some ⟨kb, 0, none⟩)) ∧ Cache w' kb G s ∧ (∀ i, G i → w.heap.size ≤ i) ∧ Below w.heap.size w w' := by
  obtain ⟨mb, v, h⟩ := h
  have hlo := h.ok.lo
  have HC := Lib.hid h
  have HW := Lib.hid (show Whole w cb 62 #[.int .i64 s.size, .int .i64 s.seq, .map (some mb), v, .int .i64 s.h, .int .i64 s.m, .int .i64 s.e, .int .i64 s.r] from h.blk)
  obtain ⟨va, vn, vc, rfl⟩ := keys_form HC.out.keys
  have hlt := HC.out.blk.lt
  have hmlt := HC.out.map.lt
  have k2 : w.cell? ⟨cb, 2, none⟩ = some (.map (some mb)) := HW.out.cell 2
  clear h k2
  go_enter Try.func19, Try.ntmps19
  go_wp2_with (first | (go_at_call 33; go_must (refine (made_yes _ cb s.size _ _ _ _ _ _ _ HW.out (by omega)).mono ?_; rintro e w' ⟨rfl, rfl⟩)) | (refine wpList_load_row rfl 62 _ rfl cb rfl 62 _ (0, 0) _ HW.out Try.underlying62 rfl size62 ?_) | (refine wpList_store_blk rfl 62 _ _ rfl w.heap.size 0 (.agg #[.int .i64 s.size, .int .i64 s.seq, .map (some mb), .slice va vn vc, .int .i64 s.h, .int .i64 s.m, .int .i64 s.e, .int .i64 s.r]) rfl rfl 62 _ (Whole.new w 62 _) (by simp [Value.cells]) size62 rfl ?_; intro w1 S1 W1; have HW1 := Lib.hid (show Whole w1 w.heap.size 62 #[.int .i64 s.size, .int .i64 s.seq, .map (some mb), .slice va vn vc, .int .i64 s.h, .int .i64 s.m, .int .i64 s.e, .int .i64 s.r] from W1); have HS1 := Lib.hid S1; clear S1 W1; have hc1 : w1.cell? ⟨cb, 2, none⟩ = some (.map (some mb)) := (HS1.out.whole (HW.out.alloc _) (by omega)).cell 2; have hm1 : MapAt w1 Try.prog 41 mb (ents s.D) := (HC.out.map.kept (Below.heap_alloc _ _ _ hmlt)).kept (HS1.out.block mb (by omega)); have q1 : ∀ ty, (Builtin.len_ #[57] ty #[.map (some mb)]).run Try.prog w1 = .ok (.int .i64 s.D.length) w1 := copy_len hm1; have HM1 := Lib.hid hm1; clear hm1; have q2 := run_makeMap_some w1 s.D.length) | (refine wpList_store_blk rfl 57 _ _ rfl w.heap.size 2 (.map (some w1.heap.size)) rfl rfl 62 _ (HW1.out.alloc _) (by simp [Value.cells]) size57 rfl ?_; intro w2 S2 W2; have HW2 := Lib.hid (show Whole w2 w.heap.size 62 #[.int .i64 s.size, .int .i64 s.seq, .map (some w1.heap.size), .slice va vn vc, .int .i64 s.h, .int .i64 s.m, .int .i64 s.e, .int .i64 s.r] from W2); have HS2 := Lib.hid S2; clear S2 W2; have hn2 : cb ≠ w.heap.size := (by omega); have hc2 : w2.cell? ⟨cb, 2, none⟩ = some (.map (some mb)) := (HS2.out.whole ((HS1.out.whole (HW.out.alloc _) hn2).alloc _) hn2).cell 2; have HM2 := Lib.hid (show MapAt w2 Try.prog 41 mb (ents s.D) from (HM1.out.kept (Below.heap_alloc _ _ _ HM1.out.lt)).kept (HS2.out.block mb (by omega))); clear hc1 q1 q2) | (refine wpList_range_at _ rfl (.tmp 22) 57 rfl 41 46 Try.underlying57 mb (ents s.D) rfl HM2.out ?_; intro w3 hr3 hg3 hs3; have HR3 := Lib.hid hr3; have HG3 := Lib.hid hg3; clear hr3 hg3 hs3 hc2))
  have hl1 : w.heap.size < w1.heap.size := HW1.out.lt
  have hB1 : Below w.heap.size w w1 := ((Below.refl _ w).alloc (Nat.le_refl _) _).trans (HS1.out.below (Nat.le_refl _))
  have hB2 : Below w.heap.size w w2 := (hB1.alloc (by omega) _).trans (HS2.out.below (Nat.le_refl _))
  have hB3 : Below w.heap.size w w3 := hB2.trans (Below.of_grown HG3.out (by have := hB2.size; omega))
  have hl2 : w1.heap.size < w2.heap.size := by rw [HS2.out.size]; simp
  have hmn : MapAt w2 Try.prog 41 w1.heap.size [] := (MapAt.made w1 Try.prog 41).kept (HS2.out.block _ (by omega))
  have HNR := Lib.hid (show w.heap.size ≠ w2.heap.size ∧ w1.heap.size ≠ w2.heap.size ∧ w.heap.size ≠ w1.heap.size ∧ w.heap.size < w1.heap.size ∧ w.heap.size < w2.heap.size by omega)
  have H0 := Lib.hid (show Copying w w3 mb w2.heap.size w.heap.size w1.heap.size s #[.int .i64 s.size, .int .i64 s.seq, .map (some w1.heap.size), .slice va vn vc, .int .i64 s.h, .int .i64 s.m, .int .i64 s.e, .int .i64 s.r] (ents s.D) from
    ⟨[], HR3.out, hmn.kept (HG3.out.block _ hmn.lt (by simp)), by simp, HW2.out.grown HG3.out (by simp), hB3⟩)
  clear hl1 hB1 hB2 hB3 hl2 hmn HR3 HG3 HM1 HM2 HS1 HS2 HW1 HW2
  have HLT := Lib.hid (And.intro hlt hmlt)
  clear hlt hmlt hn2
  simp only [Act.put, List.setIfInBounds_toArray, List.set_cons_zero, List.set_cons_succ]
  go_loopw [24] (fun _ wr => ∃ left, Copying w wr mb w2.heap.size w.heap.size w1.heap.size s #[.int .i64 s.size, .int .i64 s.seq, .map (some w1.heap.size), .slice va vn vc, .int .i64 s.h, .int .i64 s.m, .int .i64 s.e, .int .i64 s.r] left) (fun _ wr => wr.rangeLeft mb w2.heap.size)
  case atStart => exact ⟨_, H0.out⟩
  case round =>
    obtain ⟨left, E, hR, hM, hP, hWn, hB⟩ := hrel
    have HWN := Lib.hid hWn
    have HMN := Lib.hid hM
    have HBR := Lib.hid hB
    have HPE := Lib.hid hP
    have hlen := hR.left_eq
    have HLE := Lib.hid hlen
    have HRG := Lib.hid hR
    clear hWn hM hB hP hlen
    rcases hR.next 0 with ⟨h0, hrun⟩ | ⟨key, val, left', wn, hp, hrun, hrg, hgr, hsz, hen⟩
    · have HE0 := Lib.hid h0
      have hc3 : wr.cell? ⟨cb, 3, none⟩ = some (.slice va vn vc) := (Whole.under HBR.out HW.out HLT.out.1).cell 3
      clear h0 hR
      go_wp2_with (first | (go_at_call 34; go_must (refine (clone_any _ (.slice va vn vc) s.keys (HC.out.keys.under HBR.out) (fun e => HC.out.nil (by simpa [St.keys] using e)) (by have := HC.out.ok.len; have := HC.out.ok.hi; simp [St.keys]; omega)).mono ?_; rintro e w8 ⟨v8, rfl, hk8, ho8, hn8, hb8⟩; obtain ⟨xa, xn, xc, rfl⟩ := keys_form hk8; have HQ := Lib.hid (And.intro hk8 (And.intro ho8 (And.intro hn8 hb8))); clear hk8 ho8 hn8 hb8 hc3)) | (refine wpList_store_blk rfl 26 _ _ rfl w.heap.size 3 (.slice xa xn xc) rfl rfl 62 _ (Whole.under HQ.out.2.2.2 HWN.out HWN.out.lt) (by simp [Value.cells]) size26 rfl ?_; intro w9 S9 W9; have HW9 := Lib.hid (show Whole w9 w.heap.size 62 #[.int .i64 s.size, .int .i64 s.seq, .map (some w1.heap.size), .slice xa xn xc, .int .i64 s.h, .int .i64 s.m, .int .i64 s.e, .int .i64 s.r] from W9); have HS9 := Lib.hid S9; clear S9 W9))
      go_ret
      obtain ⟨hk8, ho8, hn8, hb8⟩ := HQ.out
      have hx := HNR.out
      have hs8 := HBR.out.size
      have hM9 : MapAt w9 Try.prog 41 w1.heap.size (ents s.D) := ((HMN.out.kept (hb8.block _ HMN.out.lt)).kept (HS9.out.block _ (by omega))).perm (by have := HPE.out; rw [HE0.out] at this; exact (by simpa using this.symm))
      refine ⟨w.heap.size, fun i => i = w.heap.size ∨ i = w1.heap.size ∨ (Value.slice xa xn xc).ownBlock = some i, rfl, ⟨w1.heap.size, .slice xa xn xc, HW9.out, hM9, ?_, ?_, fun i => Iff.rfl, HC.out.ok⟩, ?_, HBR.out.trans ((hb8.mono hs8).trans (HS9.out.below (Nat.le_refl _)))⟩
      · exact hk8.tch (Tch.of_sto HS9.out (F := fun i => i = w.heap.size) rfl) (fun g hg e => by have := ho8 g hg; have := HWN.out.lt; omega)
      · exact fun e => hn8 (by simp [St.keys, e])
      · rintro i (rfl | rfl | e)
        · exact Nat.le_refl _
        · omega
        · have := ho8 i e; omega
    · have hmem : (key, val) ∈ ents s.D := HPE.out.mem_iff.2 (List.mem_append_left _ (hp.mem_iff.2 (by simp)))
      obtain ⟨⟨k, d⟩, hkd, he⟩ := List.mem_map.1 hmem
      obtain ⟨rfl, rfl⟩ : k.val = key ∧ d.val = val := by simpa using he
      have hP2 := copying_next HPE.out hp
      have HP2 := Lib.hid hP2
      have HNE := Lib.hid (copy_fresh HC.out.map.keys hP2)
      have HKOK := Lib.hid (map_keyed HC.out.map hmem)
      have HT := Lib.hid (show Tch wr wn (fun i => i = w2.heap.size) from Tch.of_grown hgr (fun g e => by cases e; rfl))
      have HNB := Lib.hid (show ¬ w.heap.size = w2.heap.size from HNR.out.1)
      have HNM := Lib.hid (show ¬ w1.heap.size = w2.heap.size from HNR.out.2.1)
      have HRN := Lib.hid hrg
      have HLL := Lib.hid (And.intro hp hsz)
      unfold Key.val Dec.val at hrun hen
      clear hmem he hP2 hp hrg hgr hsz hR hkd
      go_wp2_with (first | (refine wpList_store_blk rfl 41 _ _ rfl wn.heap.size 0 (.agg #[.int .i64 k.a, .int .i64 k.b, .int .i64 k.c]) rfl rfl 41 _ ((Whole.new wn 41 _).alloc _) (by simp [Value.cells]) sz41 rfl ?_; intro w5 S5 W5; have HS5 := Lib.hid S5; have HK5 := Lib.hid (show Whole w5 wn.heap.size 41 #[.int .i64 k.a, .int .i64 k.b, .int .i64 k.c] from W5); clear S5 W5) | (refine wpList_store_blk rfl 46 _ _ rfl (wn.heap.size + 1) 0 (.agg #[.int .u32 d.allowed, .int .u32 d.auditAllow, .int .u32 d.auditDeny, .bool d.permissive, .int .i64 d.seq]) rfl rfl 46 _ (HS5.out.whole (whole_two wn _ _ _) (by omega)) (by simp [Value.cells]) size46 rfl ?_; intro w6 S6 W6; have HS6 := Lib.hid S6; have HD6 := Lib.hid (show Whole w6 (wn.heap.size + 1) 46 #[.int .u32 d.allowed, .int .u32 d.auditAllow, .int .u32 d.auditDeny, .bool d.permissive, .int .i64 d.seq] from W6); clear S6 W6; have HB6 := Lib.hid (copy_b6 HS5.out HS6.out); have a0 : w6.cell? ⟨wn.heap.size, 0, none⟩ = some (.int .i64 k.a) := (HS6.out.whole HK5.out (by omega)).cell 0; have a1 : w6.cell? ⟨wn.heap.size, 1, none⟩ = some (.int .i64 k.b) := (HS6.out.whole HK5.out (by omega)).cell 1; have a2 : w6.cell? ⟨wn.heap.size, 2, none⟩ = some (.int .i64 k.c) := (HS6.out.whole HK5.out (by omega)).cell 2; have b0 : w6.cell? ⟨wn.heap.size + 1, 0, none⟩ = some (.int .u32 d.allowed) := HD6.out.cell 0; have b1 : w6.cell? ⟨wn.heap.size + 1, 1, none⟩ = some (.int .u32 d.auditAllow) := HD6.out.cell 1; have b2 : w6.cell? ⟨wn.heap.size + 1, 2, none⟩ = some (.int .u32 d.auditDeny) := HD6.out.cell 2; have b3 : w6.cell? ⟨wn.heap.size + 1, 3, none⟩ = some (.bool d.permissive) := HD6.out.cell 3; have b4 : w6.cell? ⟨wn.heap.size + 1, 4, none⟩ = some (.int .i64 d.seq) := HD6.out.cell 4; have n2 : w6.cell? ⟨w.heap.size, 2, none⟩ = some (.map (some w1.heap.size)) := (Whole.under HB6.out (HT.out.whole HWN.out HNB.out) (HT.out.whole HWN.out HNB.out).lt).cell 2) | (refine wpList_put _ rfl (.tmp 30) (.tmp 31) (.tmp 32) 57 rfl (.map (some w1.heap.size)) (.agg #[.int .i64 k.a, .int .i64 k.b, .int .i64 k.c]) (.agg #[.int .u32 d.allowed, .int .u32 d.auditAllow, .int .u32 d.auditDeny, .bool d.permissive, .int .i64 d.seq]) rfl rfl rfl (fun w' => MapAt w' Try.prog 41 w1.heap.size ((k.val, d.val) :: E) ∧ w6.grownBy w' (some w1.heap.size) ∧ w'.heap.size = w6.heap.size) (((HMN.out.kept (HT.out.block _ HMN.out.lt HNM.out)).kept (HB6.out.block _ (Nat.lt_of_lt_of_le HMN.out.lt HT.out.size))).put_new keyed41 Try.underlying57 HKOK.out.choose_spec HNE.out) ?_; intro w7 hp; have HP := Lib.hid hp; clear hp n2 a0 a1 a2 b0 b1 b2 b3 b4))
      go_roundw
      case rel =>
        have hR6 := HRN.out.kept (HB6.out.block _ HRN.out.map.lt) (HB6.out.block _ HRN.out.lt)
        have hg7 := HP.out.2.1
        have hx := HNR.out
        have hmb : mb ≠ w1.heap.size := by have := HLT.out.2; omega
        have hrel' : ∃ left, Copying w w7 mb w2.heap.size w.heap.size w1.heap.size s #[.int .i64 s.size, .int .i64 s.seq, .map (some w1.heap.size), .slice va vn vc, .int .i64 s.h, .int .i64 s.m, .int .i64 s.e, .int .i64 s.r] left := by
         refine ⟨left', (k.val, d.val) :: E, hR6.kept (hg7.block _ hR6.map.lt (by simpa using hmb)) (hg7.block _ hR6.lt (by simpa using Ne.symm hx.2.1)), HP.out.1, HP2.out, ?_, ?_⟩
         · have hw6 : Whole w6 w.heap.size 62 #[.int .i64 s.size, .int .i64 s.seq, .map (some w1.heap.size), .slice va vn vc, .int .i64 s.h, .int .i64 s.m, .int .i64 s.e, .int .i64 s.r] := Whole.under HB6.out (HT.out.whole HWN.out HNB.out) (HT.out.whole HWN.out HNB.out).lt
           exact hw6.grown hg7 (by simpa using hx.2.2.1)
         · have h1 : Below w.heap.size w wn := HBR.out.trans (HT.out.below (fun i e => by omega) HBR.out.size)
           have h2 : Below w.heap.size w w6 := h1.trans (HB6.out.mono h1.size)
           exact h2.trans ((Tch.of_grown hg7 (F := fun i => i = w1.heap.size) (fun g e => by cases e; rfl)).below (fun i e => by omega) h2.size)
        exact ⟨_, _, _, _, _, _, _, _, _, _, _, hrel', rfl⟩
      case measure =>
        have hR6 := HRN.out.kept (HB6.out.block _ HRN.out.map.lt) (HB6.out.block _ HRN.out.lt)
        have hg7 := HP.out.2.1
        have hx := HNR.out
        have hmb : mb ≠ w1.heap.size := by have := HLT.out.2; omega
        have h1 := (hR6.kept (hg7.block _ hR6.map.lt (by simpa using hmb)) (hg7.block _ hR6.lt (by simpa using Ne.symm hx.2.1))).left_eq
        have h2 := HLL.out.1.length_eq
        have h3 := HLE.out
        simp only [List.length_cons] at h2
        omega

end Go.Proofs.Ytcdhjcjdphnleaa
