import Derived.Test.YtcdhjcjdphnleaaYC
namespace Go.Proofs.Ytcdhjcjdphnleaa
open Go Go.WideMaps Go.RowKit


set_option maxRecDepth 100000 in
/-- Seq, for a region that draws: in whatever later world the draws leave. -/
theorem seq_q (j : Nat) {X : Nat → Prop} {B : Nat} {w0 w : World} {cs : List (Nat × St)} {cb : Nat} {s : St} (h : Many X B w0 w cs) (hj : cs[j]? = some (cb, s)) {w2 : World} (hw : w2.heap = w.heap := by rfl) : Calls Try.prog 20 #[.pointer (some ⟨cb, 0, none⟩)] w2 fun e w' => e = .returned (.int .i64 s.seq) ∧ w' = w2 := by
  obtain ⟨F, h1, _⟩ := h.held
  obtain ⟨mb, v, hC⟩ := h1 j cb s hj
  have hC2 : CacheAt w2 cb mb v (F j) s := ⟨by unfold Whole; rw [hw]; exact hC.blk, hC.map.kept (by rw [hw]), hC.keys.kept fun g _ _ => by rw [hw], hC.nil, hC.foot, hC.ok⟩
  exact (seq_any w2 cb (F j) s ⟨mb, v, hC2⟩).mono fun e w' ⟨h1, h2⟩ => ⟨h1, h2.symm⟩
set_option maxRecDepth 100000 in
theorem stale_lo (w : World) (n : Int) (a : Option Addr) (c : Nat) (l : List Opn) (h : n < 1) : Calls Try.prog 5 #[.int .i64 n, .slice a l.length c] w fun e w' => e = .returned (.bool true) ∧ Below w.heap.size w w' := by
  go_enter Try.func5, Try.ntmps5
  go_wp2_with (go_at_call 10; go_must (refine (awake_any _).mono ?_; rintro e w9 ⟨rfl, hb⟩; have HB9 := Lib.hid hb; clear hb))
  go_ret
  exact ⟨rfl, HB9.out⟩

set_option maxRecDepth 100000 in
theorem stale_hi (w : World) (n : Int) (a : Option Addr) (c : Nat) (l : List Opn) (h0 : 1 ≤ n) (h : 20 < n) : Calls Try.prog 5 #[.int .i64 n, .slice a l.length c] w fun e w' => e = .returned (.bool true) ∧ Below w.heap.size w w' := by
  go_enter Try.func5, Try.ntmps5
  go_wp2_with (go_at_call 10; go_must (refine (awake_any _).mono ?_; rintro e w9 ⟨rfl, hb⟩; have HB9 := Lib.hid hb; clear hb))
  go_ret
  exact ⟨rfl, HB9.out⟩

set_option maxRecDepth 100000 in
theorem stale_l (w : World) (n : Int) (a : Option Addr) (c : Nat) (l : List Opn) (h0 : 1 ≤ n) (h1 : n ≤ 20) (h : 60 < l.length) : Calls Try.prog 5 #[.int .i64 n, .slice a l.length c] w fun e w' => e = .returned (.bool true) ∧ Below w.heap.size w w' := by
  have h' : (60 : Int) < (l.length : Int) := by omega
  clear h
  go_enter Try.func5, Try.ntmps5
  go_wp2_with (go_at_call 10; go_must (refine (awake_any _).mono ?_; rintro e w9 ⟨rfl, hb⟩; have HB9 := Lib.hid hb; clear hb))
  go_ret
  exact ⟨rfl, HB9.out⟩

set_option maxRecDepth 100000 in
set_option maxHeartbeats 1000000 in
theorem stale_main (w : World) (n : Int) (a : Option Addr) (c : Nat) (l : List Opn) (h0 : 1 ≤ n) (h1 : n ≤ 20) (h2 : l.length ≤ 60) (hw : ∀ o ∈ l, o.Wf)
    (H1 : Hid (∀ i y, l[i]? = some y → ∃ b off, a = some ⟨b, off, none⟩ ∧ ∀ wr, Below w.heap.size w wr → wr.cell? ⟨b, off + i * 6, none⟩ = some (.int .u8 y.kind) ∧ wr.cell? ⟨b, off + i * 6 + 1, none⟩ = some (.int .i64 y.src) ∧ wr.cell? ⟨b, off + i * 6 + 2, none⟩ = some (.int .i64 y.tgt) ∧ wr.cell? ⟨b, off + i * 6 + 3, none⟩ = some (.int .i64 y.cls) ∧ wr.cell? ⟨b, off + i * 6 + 4, none⟩ = some (.int .u32 y.allowed) ∧ wr.cell? ⟨b, off + i * 6 + 5, none⟩ = some (.int .i64 y.seq))) :
    Calls Try.prog 5 #[.int .i64 n, .slice a l.length c] w fun e w' => e = .returned (.bool true) ∧ Below w.heap.size w w' := by
  have HW1 := Lib.hid hw
  clear hw
  have hl : (l.length : Int) ≤ 60 := by omega
  have HM0 := Lib.hid (Many.start (X := fun _ => False) w w.heap.size (Nat.le_refl _) (fun _ h => h.elim))
  go_enter Try.func5, Try.ntmps5
  go_wp2_with fail
  refine (new_m n HM0.out h0 (by omega)).mono ?_
  rintro e w1 ⟨cb, rfl, hm, -⟩
  have HM1 := Lib.hid (show Many (fun _ => False) w.heap.size w w1 [(cb, fresh n)] from hm)
  clear hm
  go_wp2_with fail
  go_loopw [6] (fun i wr => ∃ (m : Nat) (s : St), m ≤ l.length ∧ i = .int .i64 m ∧ Many (fun _ => False) w.heap.size w wr [(cb, s)] ∧ s.Cnt m ∧ s.Fr) (fun i _ => l.length - (intOf i).toNat)
  case atStart => exact ⟨0, fresh n, Nat.zero_le _, rfl, HM1.out, cnt_fresh n, fr_fresh n⟩
  case round =>
    obtain ⟨m, s, hm, rfl, hM, hC, hF⟩ := hrel
    have HM := Lib.hid hM
    have HC := Lib.hid hC
    have HF := Lib.hid hF
    clear hM hC hF
    by_cases hlt : m < l.length
    · obtain ⟨y, hy⟩ : ∃ y, l[m]? = some y := ⟨_, List.getElem?_eq_getElem hlt⟩
      obtain ⟨b, off, rfl, hcell⟩ := H1.out m y hy
      have HCE := Lib.hid hcell
      have HWY := Lib.hid (HW1.out y (List.mem_of_getElem? hy))
      clear hcell hy
      obtain ⟨k0, k1, k2, k3, k4, k5⟩ := HCE.out wr HM.out.below
      go_wp2_with fail
      refine (play_m (fun _ => False) _ w w.heap.size 0 _ cb s y HM.out rfl (HC.out.mono (by omega)) HWY.out).mono ?_
      rintro e w5 ⟨rfl, hm5, -⟩
      have HM5 := Lib.hid (show Many (fun _ => False) w.heap.size w w5 [(cb, s.play y)] from hm5)
      clear hm5 k0 k1 k2 k3 k4 k5
      go_wp2_with fail
      refine (copy_m 0 HM5.out rfl).mono ?_
      rintro e w6 ⟨kb, rfl, hm6, -⟩
      have HM6 := Lib.hid (show Many (fun _ => False) w.heap.size w w6 [(cb, s.play y), (kb, s.play y)] from hm6)
      clear hm6
      go_wp2_with (first | (go_at_call_of 20 (Value.pointer (some ⟨kb, 0, none⟩)); go_must (refine (seq_m 1 HM6.out rfl).mono ?_; rintro e w' ⟨rfl, rfl⟩)) | (go_at_call_of 20 (Value.pointer (some ⟨cb, 0, none⟩)); go_must (refine (seq_m 0 HM6.out rfl).mono ?_; rintro e w' ⟨rfl, rfl⟩)))
      have HFY := Lib.hid (fr_play HF.out y)
      have HCY := Lib.hid (cnt_play HC.out y)
      go_loopw [8] (fun i wr => ∃ (q : Nat) (t : St), q ≤ m + 1 ∧ i = .int .i64 q ∧ Many (fun _ => False) w.heap.size w wr [(cb, s.play y), (kb, t)] ∧ t.Cnt (m + 1 + q) ∧ t.Fr ∧ t.seq = (s.play y).seq) (fun i _ => m + 1 - (intOf i).toNat)
      case atStart => exact ⟨0, s.play y, Nat.zero_le _, rfl, HM6.out, HCY.out.mono (by omega), HFY.out, rfl⟩
      case round =>
        obtain ⟨q, t, hq, rfl, hMI, hCT, hFT, hST⟩ := hrel
        have HMI := Lib.hid hMI
        have HCT0 := Lib.hid hCT
        have HCT := Lib.hid (hCT.mono (show _ ≤ (1000000 : Int) by omega))
        have HFT := Lib.hid hFT
        have HST := Lib.hid hST
        clear hMI hCT hFT hST
        by_cases hqm : q ≤ m
        · obtain ⟨yq, hyq⟩ : ∃ yq, l[q]? = some yq := ⟨_, List.getElem?_eq_getElem (by omega)⟩
          obtain ⟨b', off', hbo, hcell⟩ := H1.out q yq hyq
          cases hbo
          have HCQ := Lib.hid hcell
          have HYK := Lib.hid (HW1.out yq (List.mem_of_getElem? hyq)).key
          clear hcell hyq
          obtain ⟨d, hd⟩ : ∃ d, d = t.dec yq.key := ⟨_, rfl⟩
          obtain ⟨o, ho⟩ : ∃ o, o = t.has yq.key := ⟨_, rfl⟩
          have HD := Lib.hid hd
          have HO := Lib.hid ho
          clear hd ho
          go_wp2_with fail
          refine wp_region_tied (RFind 16) [some 56, some 57, some 58, some 59, some 60, some 61, some 62, some 63, some 64, some 65, some 66, some 67, some 68, some 69, some 70, some 71, some 72, some 55, some 73, some 74, some 9, none] [some 56, some 57, some 58, some 59, some 60, some 61, some 62, some 63, some 64, some 65, some 66, some 67, some 68, some 69, some 70, some 71, some 72, some 55, some 73, some 74, some 9, some 9] [isV (.pointer (some ⟨kb, 0, none⟩)), isV (.slice (some ⟨b, off, none⟩) l.length c), isV (.int .i64 (q : Nat)), isV (.pointer (some ⟨b, off + q * 6, none⟩)), isV (.pointer (some ⟨b, off + q * 6 + 1, none⟩)), isV (.int .i64 yq.src), isV (.slice (some ⟨b, off, none⟩) l.length c), isV (.int .i64 (q : Nat)), isV (.pointer (some ⟨b, off + q * 6, none⟩)), isV (.pointer (some ⟨b, off + q * 6 + 2, none⟩)), isV (.int .i64 yq.tgt), isV (.slice (some ⟨b, off, none⟩) l.length c), isV (.int .i64 (q : Nat)), isV (.pointer (some ⟨b, off + q * 6, none⟩)), isV (.pointer (some ⟨b, off + q * 6 + 3, none⟩)), isV (.int .i64 yq.cls), isV (.tuple #[.agg #[.int .u32 d.allowed, .int .u32 d.auditAllow, .int .u32 d.auditDeny, .bool d.permissive, .int .i64 d.seq], .bool o]), isV (.tuple #[.agg #[.int .u32 d.allowed, .int .u32 d.auditAllow, .int .u32 d.auditDeny, .bool d.permissive, .int .i64 d.seq], .bool o]), isV (.agg #[.int .u32 d.allowed, .int .u32 d.auditAllow, .int .u32 d.auditDeny, .bool d.permissive, .int .i64 d.seq]), isV (.bool o), Cell46 w.heap.size, Cell46d #[.int .u32 d.allowed, .int .u32 d.auditAllow, .int .u32 d.auditDeny, .bool d.permissive, .int .i64 d.seq]] (fun L w' => Many (fun _ => False) w.heap.size w w' [(cb, s.play y), (kb, cond (L 16) (t.find yq.key) t)]) [16, 21] (by kernel_rfl) (by kernel_rfl) (by kernel_rfl) rfl (by decide) rfl rfl (by kernel_rfl) (HMI.out.under ((Below.refl _ _).drew)) ⟨lasts_is _, lasts_is _, lasts_is _, lasts_is _, lasts_is _, lasts_is _, lasts_is _, lasts_is _, lasts_is _, lasts_is _, lasts_is _, lasts_is _, lasts_is _, lasts_is _, lasts_is _, lasts_is _, lasts_is _, lasts_is _, lasts_is _, lasts_is _, cell46_lasts, cell46d_lasts, trivial⟩ ⟨(fun _ _ _ => lastsR_is _), (fun _ _ _ => lastsR_is _), (fun _ _ _ => lastsR_is _), (fun _ _ _ => lastsR_is _), (fun _ _ _ => lastsR_is _), (fun _ _ _ => lastsR_is _), (fun _ _ _ => lastsR_is _), (fun _ _ _ => lastsR_is _), (fun _ _ _ => lastsR_is _), (fun _ _ _ => lastsR_is _), (fun _ _ _ => lastsR_is _), (fun _ _ _ => lastsR_is _), (fun _ _ _ => lastsR_is _), (fun _ _ _ => lastsR_is _), (fun _ _ _ => lastsR_is _), (fun _ _ _ => lastsR_is _), (fun _ _ _ => lastsR_is _), (fun _ _ _ => lastsR_is _), (fun _ _ _ => lastsR_is _), (fun _ _ _ => lastsR_is _), (fun _ _ _ => cell46_R), (fun i hi hne => by simp at hi; rcases hi with rfl | rfl; exact cell46d_R; exact absurd rfl hne), trivial⟩ ⟨?_, ?_, ?_, ?_, ?_, ?_, ?_, ?_, ?_, ?_, ?_, ?_, ?_, ?_, ?_, ?_, ?_, ?_, ?_, ?_, ?_, ?_, ?_⟩
          · intro L a wx Q' hL hi H F hK
            try dsimp only at hi
            have h7 : a.tmps[7]? = some (.pointer (some ⟨kb, 0, none⟩)) := F 7 rfl
            have HI := Lib.hid hi
            clear H F hi hL
            go_wp2_with fail
            exact hK _ _ _ (Below.refl _ _) HI.out (.inl ⟨rfl, rfl⟩) rfl
          · intro L a wx Q' hL hi H F hK
            try dsimp only at hi
            have h1 : a.tmps[1]? = some (.slice (some ⟨b, off, none⟩) l.length c) := F 1 rfl
            have HI := Lib.hid hi
            clear H F hi hL
            go_wp2_with fail
            exact hK _ _ _ (Below.refl _ _) HI.out (.inl ⟨rfl, rfl⟩) rfl
          · intro L a wx Q' hL hi H F hK
            try dsimp only at hi
            have h8 : a.tmps[8]? = some (.int .i64 (q : Nat)) := F 8 rfl
            have HI := Lib.hid hi
            clear H F hi hL
            go_wp2_with fail
            exact hK _ _ _ (Below.refl _ _) HI.out (.inl ⟨rfl, rfl⟩) rfl
          · intro L a wx Q' hL hi H F hK
            try dsimp only at hi
            obtain ⟨_, h57, rfl⟩ := H 1 ⟨.data, by simp, rfl⟩ _ rfl
            replace h57 := h57 _ rfl
            obtain ⟨_, h58, rfl⟩ := H 2 ⟨.data, by simp, rfl⟩ _ rfl
            replace h58 := h58 _ rfl
            have HI := Lib.hid hi
            clear H F hi hL
            go_wp2_with fail
            exact hK _ _ _ (Below.refl _ _) HI.out (.inl ⟨rfl, rfl⟩) rfl
          · intro L a wx Q' hL hi H F hK
            try dsimp only at hi
            obtain ⟨_, h59, rfl⟩ := H 3 ⟨.data, by simp, rfl⟩ _ rfl
            replace h59 := h59 _ rfl
            have HI := Lib.hid hi
            clear H F hi hL
            go_wp2_with fail
            exact hK _ _ _ (Below.refl _ _) HI.out (.inl ⟨rfl, rfl⟩) rfl
          · intro L a wx Q' hL hi H F hK
            try dsimp only at hi
            obtain ⟨_, h60, rfl⟩ := H 4 ⟨.data, by simp, rfl⟩ _ rfl
            replace h60 := h60 _ rfl
            have HI := Lib.hid hi
            clear H F hi hL
            have kq : wx.cell? ⟨b, off + q * 6 + 1, none⟩ = some (.int .i64 yq.src) := (HCQ.out wx HI.out.below).2.1
            go_wp2_with fail
            exact hK _ _ _ (Below.refl _ _) HI.out (.inl ⟨rfl, rfl⟩) rfl
          · intro L a wx Q' hL hi H F hK
            try dsimp only at hi
            have h1 : a.tmps[1]? = some (.slice (some ⟨b, off, none⟩) l.length c) := F 1 rfl
            have HI := Lib.hid hi
            clear H F hi hL
            go_wp2_with fail
            exact hK _ _ _ (Below.refl _ _) HI.out (.inl ⟨rfl, rfl⟩) rfl
          · intro L a wx Q' hL hi H F hK
            try dsimp only at hi
            have h8 : a.tmps[8]? = some (.int .i64 (q : Nat)) := F 8 rfl
            have HI := Lib.hid hi
            clear H F hi hL
            go_wp2_with fail
            exact hK _ _ _ (Below.refl _ _) HI.out (.inl ⟨rfl, rfl⟩) rfl
          · intro L a wx Q' hL hi H F hK
            try dsimp only at hi
            obtain ⟨_, h62, rfl⟩ := H 6 ⟨.data, by simp, rfl⟩ _ rfl
            replace h62 := h62 _ rfl
            obtain ⟨_, h63, rfl⟩ := H 7 ⟨.data, by simp, rfl⟩ _ rfl
            replace h63 := h63 _ rfl
            have HI := Lib.hid hi
            clear H F hi hL
            go_wp2_with fail
            exact hK _ _ _ (Below.refl _ _) HI.out (.inl ⟨rfl, rfl⟩) rfl
          · intro L a wx Q' hL hi H F hK
            try dsimp only at hi
            obtain ⟨_, h64, rfl⟩ := H 8 ⟨.data, by simp, rfl⟩ _ rfl
            replace h64 := h64 _ rfl
            have HI := Lib.hid hi
            clear H F hi hL
            go_wp2_with fail
            exact hK _ _ _ (Below.refl _ _) HI.out (.inl ⟨rfl, rfl⟩) rfl
          · intro L a wx Q' hL hi H F hK
            try dsimp only at hi
            obtain ⟨_, h65, rfl⟩ := H 9 ⟨.data, by simp, rfl⟩ _ rfl
            replace h65 := h65 _ rfl
            have HI := Lib.hid hi
            clear H F hi hL
            have kq : wx.cell? ⟨b, off + q * 6 + 2, none⟩ = some (.int .i64 yq.tgt) := (HCQ.out wx HI.out.below).2.2.1
            go_wp2_with fail
            exact hK _ _ _ (Below.refl _ _) HI.out (.inl ⟨rfl, rfl⟩) rfl
          · intro L a wx Q' hL hi H F hK
            try dsimp only at hi
            have h1 : a.tmps[1]? = some (.slice (some ⟨b, off, none⟩) l.length c) := F 1 rfl
            have HI := Lib.hid hi
            clear H F hi hL
            go_wp2_with fail
            exact hK _ _ _ (Below.refl _ _) HI.out (.inl ⟨rfl, rfl⟩) rfl
          · intro L a wx Q' hL hi H F hK
            try dsimp only at hi
            have h8 : a.tmps[8]? = some (.int .i64 (q : Nat)) := F 8 rfl
            have HI := Lib.hid hi
            clear H F hi hL
            go_wp2_with fail
            exact hK _ _ _ (Below.refl _ _) HI.out (.inl ⟨rfl, rfl⟩) rfl
          · intro L a wx Q' hL hi H F hK
            try dsimp only at hi
            obtain ⟨_, h67, rfl⟩ := H 11 ⟨.data, by simp, rfl⟩ _ rfl
            replace h67 := h67 _ rfl
            obtain ⟨_, h68, rfl⟩ := H 12 ⟨.data, by simp, rfl⟩ _ rfl
            replace h68 := h68 _ rfl
            have HI := Lib.hid hi
            clear H F hi hL
            go_wp2_with fail
            exact hK _ _ _ (Below.refl _ _) HI.out (.inl ⟨rfl, rfl⟩) rfl
          · intro L a wx Q' hL hi H F hK
            try dsimp only at hi
            obtain ⟨_, h69, rfl⟩ := H 13 ⟨.data, by simp, rfl⟩ _ rfl
            replace h69 := h69 _ rfl
            have HI := Lib.hid hi
            clear H F hi hL
            go_wp2_with fail
            exact hK _ _ _ (Below.refl _ _) HI.out (.inl ⟨rfl, rfl⟩) rfl
          · intro L a wx Q' hL hi H F hK
            try dsimp only at hi
            obtain ⟨_, h70, rfl⟩ := H 14 ⟨.data, by simp, rfl⟩ _ rfl
            replace h70 := h70 _ rfl
            have HI := Lib.hid hi
            clear H F hi hL
            have kq : wx.cell? ⟨b, off + q * 6 + 3, none⟩ = some (.int .i64 yq.cls) := (HCQ.out wx HI.out.below).2.2.2.1
            go_wp2_with fail
            exact hK _ _ _ (Below.refl _ _) HI.out (.inl ⟨rfl, rfl⟩) rfl
          · intro L a wx Q' hL hi H F hK
            try dsimp only at hi
            obtain ⟨_, h56, rfl⟩ := H 0 ⟨.data, by simp, rfl⟩ _ rfl
            replace h56 := h56 _ rfl
            obtain ⟨_, h61, rfl⟩ := H 5 ⟨.data, by simp, rfl⟩ _ rfl
            replace h61 := h61 _ rfl
            obtain ⟨_, h66, rfl⟩ := H 10 ⟨.data, by simp, rfl⟩ _ rfl
            replace h66 := h66 _ rfl
            obtain ⟨_, h71, rfl⟩ := H 15 ⟨.data, by simp, rfl⟩ _ rfl
            replace h71 := h71 _ rfl
            have HI := Lib.hid hi
            clear H F hi
            have HIM := Lib.hid (show Many (fun _ => False) w.heap.size w wx [(cb, s.play y), (kb, t)] from by have h := HI.out; rw [hL] at h; exact h)
            clear hL HI
            go_wp2_with (go_at_call 21; go_must (refine (find_k 1 yq.key HIM.out rfl HCT.out HYK.out).mono ?_; rintro e w5 ⟨he, hm5, hk5⟩; rw [← HD.out, ← HO.out] at he; subst he; have HR := Lib.hid (And.intro hm5 hk5); clear hm5 hk5))
            exact hK _ _ _ (by show RFind 16 16 wx w5; unfold RFind; rw [if_pos rfl]; exact HR.out.2) HR.out.1 (.inl ⟨rfl, rfl⟩) rfl
          · intro L a wx Q' hL hi H F hK
            try dsimp only at hi
            obtain ⟨_, h72, rfl⟩ := H 16 ⟨.data, by simp, rfl⟩ _ rfl
            replace h72 := h72 _ rfl
            have HI := Lib.hid hi
            clear H F hi hL
            go_wp2_with fail
            exact hK _ _ _ (Below.refl _ _) HI.out (.inl ⟨rfl, rfl⟩) rfl
          · intro L a wx Q' hL hi H F hK
            try dsimp only at hi
            obtain ⟨_, h55, rfl⟩ := H 17 ⟨.data, by simp, rfl⟩ _ rfl
            replace h55 := h55 _ rfl
            have HI := Lib.hid hi
            clear H F hi hL
            go_wp2_with fail
            exact hK _ _ _ (Below.refl _ _) HI.out (.inl ⟨rfl, rfl⟩) rfl
          · intro L a wx Q' hL hi H F hK
            try dsimp only at hi
            obtain ⟨_, h55, rfl⟩ := H 17 ⟨.data, by simp, rfl⟩ _ rfl
            replace h55 := h55 _ rfl
            have HI := Lib.hid hi
            clear H F hi hL
            go_wp2_with fail
            exact hK _ _ _ (Below.refl _ _) HI.out (.inl ⟨rfl, rfl⟩) rfl
          · intro L a wx Q' hL hi H F hK
            try dsimp only at hi
            have HI := Lib.hid hi
            clear H F hi hL
            go_wp2_with fail
            exact hK _ _ _ ((Below.refl _ _).alloc (Nat.le_refl _) _) (HI.out.under ((Below.refl _ _).alloc (Nat.le_refl _) _)) (.inl ⟨rfl, rfl⟩) ⟨wx.heap.size, _, rfl, HI.out.base, Whole.new wx 46 _, rfl⟩
          · intro L a wx Q' hL hi H F hK
            try dsimp only at hi
            obtain ⟨_, h73, rfl⟩ := H 18 ⟨.data, by simp, rfl⟩ _ rfl
            replace h73 := h73 _ rfl
            obtain ⟨v9, h9, hv9⟩ := H 20 ⟨.data, by simp, rfl⟩ _ rfl
            replace h9 := h9 _ rfl
            have HV9 := Lib.hid hv9
            clear hv9
            have HI := Lib.hid hi
            clear H F hi hL
            obtain ⟨g, cs, rfl, hgB, hcs, hsz⟩ := HV9.out
            have HCS := Lib.hid hcs
            have HSZ := Lib.hid hsz
            clear HV9 hcs hsz
            refine wpList_store_blk rfl 46 _ _ rfl g 0 (.agg #[.int .u32 d.allowed, .int .u32 d.auditAllow, .int .u32 d.auditDeny, .bool d.permissive, .int .i64 d.seq]) (by simp [Act.eval, *]) (by simp [Act.eval, *]) 46 _ HCS.out (by rw [HSZ.out]; simp [Value.cells]) size46 rfl ?_
            intro w2 S2 W2
            rw [splice_all _ _ (by rw [HSZ.out]; rfl)] at W2
            exact hK undef _ w2 (by show RFind 16 21 wx w2; unfold RFind; rw [if_neg (by decide)]; exact Sto46.of S2 HCS.out W2 (by rw [HSZ.out]; rfl)) (HI.out.sto HCS.out (by decide) (by decide) S2 hgB) (.inr ⟨9, rfl, rfl, h9⟩) ⟨g, rfl, W2⟩
          · intro a wx hl L hi hL Q' hK
            try dsimp only at hi
            have HB := Lib.hid hi
            have HL := Lib.hid hL
            clear hi hL
            obtain ⟨_, -, rfl, _, -, rfl, _, -, rfl, _, -, rfl, _, -, rfl, _, -, rfl, _, -, rfl, _, -, rfl, _, -, rfl, _, -, rfl, _, -, rfl, _, -, rfl, _, -, rfl, _, -, rfl, _, -, rfl, _, -, rfl, _, -, rfl, _, -, rfl, _, -, rfl, _, -, rfl, u9, ut9, hu9, un21, utn21, hun21, ha⟩ := hl
            obtain rfl : u9 = un21 := Option.some.inj (ut9.symm.trans (utn21 9 rfl))
            clear ut9 utn21
            subst ha
            have HU9 := Lib.hid hu9
            clear hu9
            have HUn21 := Lib.hid hun21
            clear hun21
            simp only [List.setIfInBounds_toArray, List.set_cons_zero, List.set_cons_succ]
            skip
            obtain ⟨g, rfl, hgw⟩ := HUn21.out
            have HMX := Lib.hid (show Many (fun _ => False) w.heap.size w wx [(cb, s.play y), (kb, t.find yq.key)] from by have h := HB.out; rw [HL.out 16 (by decide)] at h; exact h)
            have k4 : wx.cell? ⟨g, 4, none⟩ = some (.int .i64 d.seq) := hgw.cell 4
            clear HUn21 HU9 hgw HB HL
            cases o with
            | false =>
              go_wp2_with fail
              go_quiet (fail)
              go_wp2_with fail
              go_roundw
              case rel => exact ⟨q + 1, t.find yq.key, by omega, by go_num, HMX.out.under (below_drewN (Below.refl _ _) _), (cnt_find HCT0.out yq.key).mono (by omega), (fr_find HFT.out yq.key).1, (fr_find HFT.out yq.key).2.trans HST.out⟩
              case measure => simp [intOf]; omega
            | true =>
              have hns : ¬ d.seq < (s.play y).seq := by
                have h1 := fr_dec HFT.out HO.out.symm
                rw [← HD.out, HST.out] at h1
                omega
              go_wp2_with fail
              go_quiet ((go_at_call 20; exact Calls.quiet_of_same (seq_q 0 HMX.out rfl)))
              go_wp2_with fail
              go_roundw
              case rel => exact ⟨q + 1, t.find yq.key, by omega, by go_num, HMX.out.under (below_drewN (Below.refl _ _) _), (cnt_find HCT0.out yq.key).mono (by omega), (fr_find HFT.out yq.key).1, (fr_find HFT.out yq.key).2.trans HST.out⟩
              case measure => simp [intOf]; omega
        · obtain rfl : q = m + 1 := by omega
          go_wp2_with fail
          go_roundw
          case rel => exact ⟨m + 1, s.play y, by omega, by go_num, HMI.out.take (fun j x hx => by cases j with | zero => exact hx | succ j => simp at hx), HCY.out.mono (by omega), HFY.out⟩
          case measure => simp [intOf]; omega
    · obtain rfl : m = l.length := by omega
      go_wp2_with (go_at_call 10; go_must (refine (awake_any _).mono ?_; rintro e w9 ⟨rfl, hb⟩; have HM9 := Lib.hid (HM.out.under hb); clear hb))
      go_ret
      exact ⟨rfl, HM9.out.below⟩

theorem cacheNeverStale_any (w : World) (n : Int) (v : Value) (l : List Opn) (hl : OpsAt w v l) (hw : ∀ o ∈ l, o.Wf) :
    Calls Try.prog 5 #[.int .i64 n, v] w fun e w' => e = .returned (.bool true) ∧ Below w.heap.size w w' := by
  obtain ⟨a, c, rfl, -, hm, H1⟩ := ops_form hl
  by_cases h0 : n < 1
  · exact stale_lo w n a c l h0
  by_cases h1 : 20 < n
  · exact stale_hi w n a c l (by omega) h1
  by_cases h2 : 60 < l.length
  · exact stale_l w n a c l (by omega) (by omega) h2
  exact stale_main w n a c l (by omega) (by omega) (by omega) hw H1

end Go.Proofs.Ytcdhjcjdphnleaa
