import Derived.Test.YtcdhjcjdphnleaaYM
namespace Go.Proofs.Ytcdhjcjdphnleaa
open Go Go.WideMaps Go.RowKit


set_option maxRecDepth 100000 in
theorem last_lo (w : World) (n : Int) (a : Option Addr) (c : Nat) (l : List Opn) (h : n < 1) : Calls Try.prog 6 #[.int .i64 n, .slice a l.length c] w fun e w' => e = .returned (.bool true) ∧ Below w.heap.size w w' := by
  go_enter Try.func6, Try.ntmps6
  go_wp2_with (go_at_call 10; go_must (refine (awake_any _).mono ?_; rintro e w9 ⟨rfl, hb⟩; have HB9 := Lib.hid hb; clear hb))
  go_ret
  exact ⟨rfl, HB9.out⟩

set_option maxRecDepth 100000 in
theorem last_hi (w : World) (n : Int) (a : Option Addr) (c : Nat) (l : List Opn) (h0 : 1 ≤ n) (h : 20 < n) : Calls Try.prog 6 #[.int .i64 n, .slice a l.length c] w fun e w' => e = .returned (.bool true) ∧ Below w.heap.size w w' := by
  go_enter Try.func6, Try.ntmps6
  go_wp2_with (go_at_call 10; go_must (refine (awake_any _).mono ?_; rintro e w9 ⟨rfl, hb⟩; have HB9 := Lib.hid hb; clear hb))
  go_ret
  exact ⟨rfl, HB9.out⟩

set_option maxRecDepth 100000 in
theorem last_l (w : World) (n : Int) (a : Option Addr) (c : Nat) (l : List Opn) (h0 : 1 ≤ n) (h1 : n ≤ 20) (h : 60 < l.length) : Calls Try.prog 6 #[.int .i64 n, .slice a l.length c] w fun e w' => e = .returned (.bool true) ∧ Below w.heap.size w w' := by
  have h' : (60 : Int) < (l.length : Int) := by omega
  clear h
  go_enter Try.func6, Try.ntmps6
  go_wp2_with (go_at_call 10; go_must (refine (awake_any _).mono ?_; rintro e w9 ⟨rfl, hb⟩; have HB9 := Lib.hid hb; clear hb))
  go_ret
  exact ⟨rfl, HB9.out⟩
theorem upd_ne {i j : Nat} (L : Nat → Bool) (h : j ≠ i) : upd L i j = L j := by
  unfold upd
  have : (j == i) = false := by simpa using h
  rw [this, Bool.false_or]
theorem five46 {w : World} {g : Nat} {d : Dec} (h : Whole w g 46 #[.int .u32 d.allowed, .int .u32 d.auditAllow, .int .u32 d.auditDeny, .bool d.permissive, .int .i64 d.seq]) : w.cell? ⟨g, 0, none⟩ = some (.int .u32 d.allowed) ∧ w.cell? ⟨g, 1, none⟩ = some (.int .u32 d.auditAllow) ∧ w.cell? ⟨g, 2, none⟩ = some (.int .u32 d.auditDeny) ∧ w.cell? ⟨g, 3, none⟩ = some (.bool d.permissive) ∧ w.cell? ⟨g, 4, none⟩ = some (.int .i64 d.seq) :=
  ⟨h.cell 0, h.cell 1, h.cell 2, h.cell 3, h.cell 4⟩
theorem has_get {s : St} {k : Key} {d : Dec} (h : s.has k = true) (hd : d = s.dec k) : s.get k = some d := by
  unfold St.has at h
  unfold St.dec at hd
  cases hg : s.get k with
  | none => rw [hg] at h; cases h
  | some x => rw [hg] at hd; rw [hd]; rfl
theorem down {l : List Opn} {bt : List Bool} {p m : Nat} {k : Key} (hno : ∀ n', p < n' → n' ≤ m → ¬ Hit l bt n' k) (hpm : p ≤ m) (hp : ¬ Hit l bt p k) :
    (Value.int .i64 ((p : Int) - 1) = .int .i64 (-1) ∧ ∀ n', n' ≤ m → ¬ Hit l bt n' k) ∨ ∃ q : Nat, q ≤ m ∧ Value.int .i64 ((p : Int) - 1) = .int .i64 q ∧ ∀ n', q < n' → n' ≤ m → ¬ Hit l bt n' k := by
  have key : ∀ n', p ≤ n' → n' ≤ m → ¬ Hit l bt n' k := fun n' h1 h2 => by
    by_cases e : n' = p
    · rw [e]; exact hp
    · exact hno n' (by omega) h2
  cases p with
  | zero => exact .inl ⟨rfl, fun n' h => key n' (Nat.zero_le _) h⟩
  | succ q => exact .inr ⟨q, by omega, int_eq' (by omega), fun n' h1 h2 => key n' (by omega) h2⟩
where int_eq' {a b : Int} (h : a = b) : Value.int .i64 a = .int .i64 b := by rw [h]

set_option maxRecDepth 100000 in
set_option maxHeartbeats 40000000 in
theorem last_main (w : World) (n : Int) (a : Option Addr) (c : Nat) (l : List Opn) (h0 : 1 ≤ n) (h1 : n ≤ 20) (h2 : l.length ≤ 60) (hw : ∀ o ∈ l, o.Wf)
    (H1 : Hid (∀ i y, l[i]? = some y → ∃ b off, a = some ⟨b, off, none⟩ ∧ ∀ wr, Below w.heap.size w wr → wr.cell? ⟨b, off + i * 6, none⟩ = some (.int .u8 y.kind) ∧ wr.cell? ⟨b, off + i * 6 + 1, none⟩ = some (.int .i64 y.src) ∧ wr.cell? ⟨b, off + i * 6 + 2, none⟩ = some (.int .i64 y.tgt) ∧ wr.cell? ⟨b, off + i * 6 + 3, none⟩ = some (.int .i64 y.cls) ∧ wr.cell? ⟨b, off + i * 6 + 4, none⟩ = some (.int .u32 y.allowed) ∧ wr.cell? ⟨b, off + i * 6 + 5, none⟩ = some (.int .i64 y.seq))) :
    Calls Try.prog 6 #[.int .i64 n, .slice a l.length c] w fun e w' => e = .returned (.bool true) ∧ Below w.heap.size w w' := by
  have HW1 := Lib.hid hw
  clear hw
  have hl : (l.length : Int) ≤ 60 := by omega
  have HM0 := Lib.hid (Many.start (X := fun _ => False) w w.heap.size (Nat.le_refl _) (fun _ h => h.elim))
  go_enter Try.func6, Try.ntmps6
  go_wp2_with fail
  refine (new_m n HM0.out h0 (by omega)).mono ?_
  rintro e w1 ⟨cb, rfl, hm, -⟩
  have HM1 := Lib.hid (show Many (fun _ => False) w.heap.size w w1 [(cb, fresh n)] from hm)
  clear hm
  have q := make_flags w1 l.length h2
  go_wp2_with fail
  clear q
  have hba : Below w1.heap.size w1 (w1.alloc (.cells (flags (List.replicate l.length false)) 4)) := (Below.refl _ _).alloc (Nat.le_refl _) _
  have HM2 := Lib.hid (HM1.out.other (Y := (fun i => i = w1.heap.size)) hba (fun i e => .inr (by rw [e]; exact ⟨Nat.le_refl _, by simp⟩)))
  clear hba
  go_loopw [7] (fun i wr => ∃ (m : Nat) (s : St) (bs : List Bool), m ≤ l.length ∧ i = .int .i64 m ∧ Many (fun i => i = w1.heap.size) w.heap.size w wr [(cb, s)] ∧ Whole wr w1.heap.size 4 (flags bs) ∧ bs.length = l.length ∧ s.Cnt m ∧ LastOk l bs m s) (fun i _ => l.length - (intOf i).toNat)
  case atStart => exact ⟨0, fresh n, _, Nat.zero_le _, rfl, HM2.out, Whole.new w1 4 _, by simp, cnt_fresh n, last_fresh l n _⟩
  case round =>
    obtain ⟨m, s, bs, hm, rfl, hM, hDN, hLEN, hC, hLO⟩ := hrel
    have HM := Lib.hid hM
    have HC := Lib.hid hC
    have HC6 := Lib.hid (hC.mono (show _ ≤ (1000000 : Int) by omega))
    have HDN := Lib.hid hDN
    have HLEN := Lib.hid hLEN
    have HLO := Lib.hid hLO
    clear hM hC hDN hLEN hLO
    by_cases hlt : m < l.length
    · obtain ⟨y, hy⟩ : ∃ y, l[m]? = some y := ⟨_, List.getElem?_eq_getElem hlt⟩
      obtain ⟨b, off, rfl, hcell⟩ := H1.out m y hy
      have HCE := Lib.hid hcell
      have HY := Lib.hid hy
      have HWY := Lib.hid (HW1.out y (List.mem_of_getElem? hy))
      have hk0 := HWY.out.kind.1
      have hk1 := HWY.out.kind.2
      clear hcell hy
      obtain ⟨k0, k1, k2, k3, k4, k5⟩ := HCE.out wr HM.out.below
      by_cases hkk : y.kind % 3 = 1
      · obtain ⟨E, hE⟩ : ∃ E, E = s.insErr y.dec := ⟨_, rfl⟩
        have HE := Lib.hid hE
        clear hE
        go_wp2_with fail
        clear k0 k1 k2 k3 k4 k5 hkk
        refine wp_region_last Kinds [some 43, some 44, some 45, some 46, some 47, some 48, some 49, some 50, some 51, some 52, some 53, some 54, some 55, some 56, some 57, some 58, some 59, some 60, some 61, some 62, some 63, some 64, some 65, some 66, some 67, some 68] [isV (.slice (some ⟨w1.heap.size, 0, none⟩) l.length l.length), isV (.int .i64 (m : Nat)), isV (.pointer (some ⟨cb, 0, none⟩)), isV (.slice (some ⟨b, off, none⟩) l.length c), isV (.int .i64 (m : Nat)), isV (.pointer (some ⟨b, off + m * 6, none⟩)), isV (.pointer (some ⟨b, off + m * 6 + 1, none⟩)), isV (.int .i64 y.src), isV (.slice (some ⟨b, off, none⟩) l.length c), isV (.int .i64 (m : Nat)), isV (.pointer (some ⟨b, off + m * 6, none⟩)), isV (.pointer (some ⟨b, off + m * 6 + 2, none⟩)), isV (.int .i64 y.tgt), isV (.slice (some ⟨b, off, none⟩) l.length c), isV (.int .i64 (m : Nat)), isV (.pointer (some ⟨b, off + m * 6, none⟩)), isV (.pointer (some ⟨b, off + m * 6 + 3, none⟩)), isV (.int .i64 y.cls), isV (.slice (some ⟨b, off, none⟩) l.length c), isV (.int .i64 (m : Nat)), isV (.pointer (some ⟨b, off + m * 6, none⟩)), isV (.agg #[.int .u8 y.kind, .int .i64 y.src, .int .i64 y.tgt, .int .i64 y.cls, .int .u32 y.allowed, .int .i64 y.seq]), isV (.agg #[.int .u32 y.allowed, .int .u32 0, .int .u32 0, .bool false, .int .i64 y.seq]), isV (.int .i64 E), isV (.bool (E == 0)), isV (.pointer (some ⟨w1.heap.size, m, none⟩))] (fun L w' => Many (fun i => i = w1.heap.size) w.heap.size w w' [(cb, cond (L 23) (s.insert y.key y.dec) s)] ∧ Whole w' w1.heap.size 4 (flags bs)) 23 (by kernel_rfl) (by kernel_rfl) (by kernel_rfl) rfl (by decide) rfl rfl (⟨HM.out.under ((Below.refl _ _).drew), HDN.out⟩) ⟨lasts_is _, lasts_is _, lasts_is _, lasts_is _, lasts_is _, lasts_is _, lasts_is _, lasts_is _, lasts_is _, lasts_is _, lasts_is _, lasts_is _, lasts_is _, lasts_is _, lasts_is _, lasts_is _, lasts_is _, lasts_is _, lasts_is _, lasts_is _, lasts_is _, lasts_is _, lasts_is _, lasts_is _, lasts_is _, lasts_is _, trivial⟩ ⟨(fun _ => lastsR_is _), (fun _ => lastsR_is _), (fun _ => lastsR_is _), (fun _ => lastsR_is _), (fun _ => lastsR_is _), (fun _ => lastsR_is _), (fun _ => lastsR_is _), (fun _ => lastsR_is _), (fun _ => lastsR_is _), (fun _ => lastsR_is _), (fun _ => lastsR_is _), (fun _ => lastsR_is _), (fun _ => lastsR_is _), (fun _ => lastsR_is _), (fun _ => lastsR_is _), (fun _ => lastsR_is _), (fun _ => lastsR_is _), (fun _ => lastsR_is _), (fun _ => lastsR_is _), (fun _ => lastsR_is _), (fun _ => lastsR_is _), (fun _ => lastsR_is _), (fun _ => lastsR_is _), (fun h => absurd rfl h), (fun _ => lastsR_is _), (fun _ => lastsR_is _), trivial⟩ ⟨?_, ?_, ?_, ?_, ?_, ?_, ?_, ?_, ?_, ?_, ?_, ?_, ?_, ?_, ?_, ?_, ?_, ?_, ?_, ?_, ?_, ?_, ?_, ?_, ?_, ?_, ?_⟩
        · intro L a wx Q' hL hi H F hK
          try dsimp only at hi
          have h6 : a.tmps[6]? = some (.slice (some ⟨w1.heap.size, 0, none⟩) l.length l.length) := F 6 rfl
          have HI := Lib.hid hi
          clear H F hi hL
          go_wp2_with fail
          exact hK _ _ (Below.refl _ _) HI.out rfl
        · intro L a wx Q' hL hi H F hK
          try dsimp only at hi
          have h7 : a.tmps[7]? = some (.int .i64 (m : Nat)) := F 7 rfl
          have HI := Lib.hid hi
          clear H F hi hL
          go_wp2_with fail
          exact hK _ _ (Below.refl _ _) HI.out rfl
        · intro L a wx Q' hL hi H F hK
          try dsimp only at hi
          have h5 : a.tmps[5]? = some (.pointer (some ⟨cb, 0, none⟩)) := F 5 rfl
          have HI := Lib.hid hi
          clear H F hi hL
          go_wp2_with fail
          exact hK _ _ (Below.refl _ _) HI.out rfl
        · intro L a wx Q' hL hi H F hK
          try dsimp only at hi
          have h1 : a.tmps[1]? = some (.slice (some ⟨b, off, none⟩) l.length c) := F 1 rfl
          have HI := Lib.hid hi
          clear H F hi hL
          go_wp2_with fail
          exact hK _ _ (Below.refl _ _) HI.out rfl
        · intro L a wx Q' hL hi H F hK
          try dsimp only at hi
          have h7 : a.tmps[7]? = some (.int .i64 (m : Nat)) := F 7 rfl
          have HI := Lib.hid hi
          clear H F hi hL
          go_wp2_with fail
          exact hK _ _ (Below.refl _ _) HI.out rfl
        · intro L a wx Q' hL hi H F hK
          try dsimp only at hi
          obtain ⟨_, h46, rfl⟩ := H 3 ⟨.data, by simp, rfl⟩ _ rfl
          replace h46 := h46 _ rfl
          obtain ⟨_, h47, rfl⟩ := H 4 ⟨.data, by simp, rfl⟩ _ rfl
          replace h47 := h47 _ rfl
          have HI := Lib.hid hi
          clear H F hi hL
          go_wp2_with fail
          exact hK _ _ (Below.refl _ _) HI.out rfl
        · intro L a wx Q' hL hi H F hK
          try dsimp only at hi
          obtain ⟨_, h48, rfl⟩ := H 5 ⟨.data, by simp, rfl⟩ _ rfl
          replace h48 := h48 _ rfl
          have HI := Lib.hid hi
          clear H F hi hL
          go_wp2_with fail
          exact hK _ _ (Below.refl _ _) HI.out rfl
        · intro L a wx Q' hL hi H F hK
          try dsimp only at hi
          obtain ⟨_, h49, rfl⟩ := H 6 ⟨.data, by simp, rfl⟩ _ rfl
          replace h49 := h49 _ rfl
          have HI := Lib.hid hi
          clear H F hi hL
          have kq : wx.cell? ⟨b, off + m * 6 + 1, none⟩ = some (.int .i64 y.src) := (HCE.out wx HI.out.1.below).2.1
          go_wp2_with fail
          exact hK _ _ (Below.refl _ _) HI.out rfl
        · intro L a wx Q' hL hi H F hK
          try dsimp only at hi
          have h1 : a.tmps[1]? = some (.slice (some ⟨b, off, none⟩) l.length c) := F 1 rfl
          have HI := Lib.hid hi
          clear H F hi hL
          go_wp2_with fail
          exact hK _ _ (Below.refl _ _) HI.out rfl
        · intro L a wx Q' hL hi H F hK
          try dsimp only at hi
          have h7 : a.tmps[7]? = some (.int .i64 (m : Nat)) := F 7 rfl
          have HI := Lib.hid hi
          clear H F hi hL
          go_wp2_with fail
          exact hK _ _ (Below.refl _ _) HI.out rfl
        · intro L a wx Q' hL hi H F hK
          try dsimp only at hi
          obtain ⟨_, h51, rfl⟩ := H 8 ⟨.data, by simp, rfl⟩ _ rfl
          replace h51 := h51 _ rfl
          obtain ⟨_, h52, rfl⟩ := H 9 ⟨.data, by simp, rfl⟩ _ rfl
          replace h52 := h52 _ rfl
          have HI := Lib.hid hi
          clear H F hi hL
          go_wp2_with fail
          exact hK _ _ (Below.refl _ _) HI.out rfl
        · intro L a wx Q' hL hi H F hK
          try dsimp only at hi
          obtain ⟨_, h53, rfl⟩ := H 10 ⟨.data, by simp, rfl⟩ _ rfl
          replace h53 := h53 _ rfl
          have HI := Lib.hid hi
          clear H F hi hL
          go_wp2_with fail
          exact hK _ _ (Below.refl _ _) HI.out rfl
        · intro L a wx Q' hL hi H F hK
          try dsimp only at hi
          obtain ⟨_, h54, rfl⟩ := H 11 ⟨.data, by simp, rfl⟩ _ rfl
          replace h54 := h54 _ rfl
          have HI := Lib.hid hi
          clear H F hi hL
          have kq : wx.cell? ⟨b, off + m * 6 + 2, none⟩ = some (.int .i64 y.tgt) := (HCE.out wx HI.out.1.below).2.2.1
          go_wp2_with fail
          exact hK _ _ (Below.refl _ _) HI.out rfl
        · intro L a wx Q' hL hi H F hK
          try dsimp only at hi
          have h1 : a.tmps[1]? = some (.slice (some ⟨b, off, none⟩) l.length c) := F 1 rfl
          have HI := Lib.hid hi
          clear H F hi hL
          go_wp2_with fail
          exact hK _ _ (Below.refl _ _) HI.out rfl
        · intro L a wx Q' hL hi H F hK
          try dsimp only at hi
          have h7 : a.tmps[7]? = some (.int .i64 (m : Nat)) := F 7 rfl
          have HI := Lib.hid hi
          clear H F hi hL
          go_wp2_with fail
          exact hK _ _ (Below.refl _ _) HI.out rfl
        · intro L a wx Q' hL hi H F hK
          try dsimp only at hi
          obtain ⟨_, h56, rfl⟩ := H 13 ⟨.data, by simp, rfl⟩ _ rfl
          replace h56 := h56 _ rfl
          obtain ⟨_, h57, rfl⟩ := H 14 ⟨.data, by simp, rfl⟩ _ rfl
          replace h57 := h57 _ rfl
          have HI := Lib.hid hi
          clear H F hi hL
          go_wp2_with fail
          exact hK _ _ (Below.refl _ _) HI.out rfl
        · intro L a wx Q' hL hi H F hK
          try dsimp only at hi
          obtain ⟨_, h58, rfl⟩ := H 15 ⟨.data, by simp, rfl⟩ _ rfl
          replace h58 := h58 _ rfl
          have HI := Lib.hid hi
          clear H F hi hL
          go_wp2_with fail
          exact hK _ _ (Below.refl _ _) HI.out rfl
        · intro L a wx Q' hL hi H F hK
          try dsimp only at hi
          obtain ⟨_, h59, rfl⟩ := H 16 ⟨.data, by simp, rfl⟩ _ rfl
          replace h59 := h59 _ rfl
          have HI := Lib.hid hi
          clear H F hi hL
          have kq : wx.cell? ⟨b, off + m * 6 + 3, none⟩ = some (.int .i64 y.cls) := (HCE.out wx HI.out.1.below).2.2.2.1
          go_wp2_with fail
          exact hK _ _ (Below.refl _ _) HI.out rfl
        · intro L a wx Q' hL hi H F hK
          try dsimp only at hi
          have h1 : a.tmps[1]? = some (.slice (some ⟨b, off, none⟩) l.length c) := F 1 rfl
          have HI := Lib.hid hi
          clear H F hi hL
          go_wp2_with fail
          exact hK _ _ (Below.refl _ _) HI.out rfl
        · intro L a wx Q' hL hi H F hK
          try dsimp only at hi
          have h7 : a.tmps[7]? = some (.int .i64 (m : Nat)) := F 7 rfl
          have HI := Lib.hid hi
          clear H F hi hL
          go_wp2_with fail
          exact hK _ _ (Below.refl _ _) HI.out rfl
        · intro L a wx Q' hL hi H F hK
          try dsimp only at hi
          obtain ⟨_, h61, rfl⟩ := H 18 ⟨.data, by simp, rfl⟩ _ rfl
          replace h61 := h61 _ rfl
          obtain ⟨_, h62, rfl⟩ := H 19 ⟨.data, by simp, rfl⟩ _ rfl
          replace h62 := h62 _ rfl
          have HI := Lib.hid hi
          clear H F hi hL
          go_wp2_with fail
          exact hK _ _ (Below.refl _ _) HI.out rfl
        · intro L a wx Q' hL hi H F hK
          try dsimp only at hi
          obtain ⟨_, h63, rfl⟩ := H 20 ⟨.data, by simp, rfl⟩ _ rfl
          replace h63 := h63 _ rfl
          have HI := Lib.hid hi
          clear H F hi hL
          obtain ⟨k0, k1, k2, k3, k4, k5⟩ := HCE.out wx HI.out.1.below
          go_wp2_with fail
          exact hK _ _ (Below.refl _ _) HI.out rfl
        · intro L a wx Q' hL hi H F hK
          try dsimp only at hi
          obtain ⟨_, h64, rfl⟩ := H 21 ⟨.data, by simp, rfl⟩ _ rfl
          replace h64 := h64 _ rfl
          have HI := Lib.hid hi
          clear H F hi hL
          go_wp2_with (go_at_call 23; go_must (refine (decision_any y _).mono ?_; rintro e w2 ⟨rfl, hb1⟩))
          exact hK _ _ hb1 ⟨HI.out.1.under hb1, Whole.under hb1 HI.out.2 HI.out.2.lt⟩ rfl
        · intro L a wx Q' hL hi H F hK
          try dsimp only at hi
          obtain ⟨_, h45, rfl⟩ := H 2 ⟨.data, by simp, rfl⟩ _ rfl
          replace h45 := h45 _ rfl
          obtain ⟨_, h50, rfl⟩ := H 7 ⟨.data, by simp, rfl⟩ _ rfl
          replace h50 := h50 _ rfl
          obtain ⟨_, h55, rfl⟩ := H 12 ⟨.data, by simp, rfl⟩ _ rfl
          replace h55 := h55 _ rfl
          obtain ⟨_, h60, rfl⟩ := H 17 ⟨.data, by simp, rfl⟩ _ rfl
          replace h60 := h60 _ rfl
          obtain ⟨_, h65, rfl⟩ := H 22 ⟨.data, by simp, rfl⟩ _ rfl
          replace h65 := h65 _ rfl
          have HI := Lib.hid hi
          clear H F hi
          have HIM := Lib.hid (show Many (fun i => i = w1.heap.size) w.heap.size w wx [(cb, s)] from by have h := HI.out.1; rw [hL] at h; exact h)
          have HID := Lib.hid HI.out.2
          clear hL HI
          go_wp2_with (go_at_call 22; go_must (refine (insert_k 0 y.key y.dec HIM.out rfl HC6.out HWY.out.key).mono ?_; rintro e w5 ⟨he, hm5, hk5⟩; rw [← HE.out] at he; subst he; have HR := Lib.hid (And.intro hm5 hk5); clear hm5 hk5))
          exact hK _ _ HR.out.2 ⟨HR.out.1, HR.out.2 _ 4 _ (by decide) (by decide) HID.out⟩ rfl
        · intro L a wx Q' hL hi H F hK
          try dsimp only at hi
          obtain ⟨_, h66, rfl⟩ := H 23 ⟨.data, by simp, rfl⟩ _ rfl
          replace h66 := h66 _ rfl
          have HI := Lib.hid hi
          clear H F hi hL
          go_wp2_with fail
          exact hK _ _ (Below.refl _ _) HI.out rfl
        · intro L a wx Q' hL hi H F hK
          try dsimp only at hi
          obtain ⟨_, h43, rfl⟩ := H 0 ⟨.data, by simp, rfl⟩ _ rfl
          replace h43 := h43 _ rfl
          obtain ⟨_, h44, rfl⟩ := H 1 ⟨.data, by simp, rfl⟩ _ rfl
          replace h44 := h44 _ rfl
          have HI := Lib.hid hi
          clear H F hi hL
          go_wp2_with fail
          exact hK _ _ (Below.refl _ _) HI.out rfl
        · intro a wx hl L hi hL Q' hK
          try dsimp only at hi
          have HB := Lib.hid hi
          have HL := Lib.hid hL
          clear hi hL
          obtain ⟨_, rfl, _, rfl, _, rfl, _, rfl, _, rfl, _, rfl, _, rfl, _, rfl, _, rfl, _, rfl, _, rfl, _, rfl, _, rfl, _, rfl, _, rfl, _, rfl, _, rfl, _, rfl, _, rfl, _, rfl, _, rfl, _, rfl, _, rfl, _, rfl, _, rfl, _, rfl, rfl⟩ := hl
          simp only [List.setIfInBounds_toArray, List.set_cons_zero, List.set_cons_succ]
          go_wp2_with (refine wpList_store_blk rfl 4 _ _ rfl w1.heap.size m (.bool (E == 0)) rfl rfl 4 _ HB.out.2 (by rw [flags_size, HLEN.out]; simp [Value.cells]; omega) size4 rfl ?_; intro w7 S7 W7; have HS7 := Lib.hid S7; have HW7 := Lib.hid (show Whole w7 w1.heap.size 4 (flags (bs.set m (E == 0))) from by rw [← flags_set]; exact W7); clear S7 W7)
          obtain ⟨t, ht⟩ : ∃ t, t = s.insert y.key y.dec := ⟨_, rfl⟩
          obtain ⟨bt, hbt⟩ : ∃ bt, bt = bs.set m (E == 0) := ⟨_, rfl⟩
          have HMT := Lib.hid (show Many (fun i => i = w1.heap.size) w.heap.size w w7 [(cb, t)] from by
            have h := HB.out.1
            rw [HL.out 23 (by decide)] at h
            rw [ht]
            exact h.sto HB.out.2 (by decide) (by decide) HS7.out (by have := HM1.out.base; exact this))
          have HDT := Lib.hid (show Whole w7 w1.heap.size 4 (flags bt) from by rw [hbt]; exact HW7.out)
          have HLEN2 := Lib.hid (show bt.length = l.length by rw [hbt, List.length_set]; exact HLEN.out)
          have hEB : (E == 0) = decide (s.insErr y.dec = 0) := by rw [HE.out]; rfl
          have HLT := Lib.hid (show LastOk l bt (m + 1) t from by rw [hbt, ht, hEB]; exact last_insert HLO.out HY.out HLEN.out)
          have HCT0 := Lib.hid (show t.Cnt (m + 1) from by rw [ht]; exact cnt_insert HC.out _ _)
          have HCT := Lib.hid (HCT0.out.mono (show _ ≤ (1000000 : Int) by omega))
          have HSELF := Lib.hid (show bt[m]? = some true → t.has y.key = true from fun h => by
            rw [hbt, List.getElem?_set_self (by have := HLEN.out; omega), hEB] at h
            have h1 : s.insErr y.dec = 0 := of_decide_eq_true (Option.some.inj h)
            have hst : ¬ y.dec.seq < s.seq := fun hh => by unfold St.insErr at h1; rw [if_pos hh] at h1; cases h1
            rw [ht]
            unfold St.has
            rw [get_insert_self _ _ hst]
            rfl)
          clear ht hbt hEB HB HL HS7 HW7 HLO HC HC6 HDN HM HE
          obtain ⟨d, hd⟩ : ∃ d, d = t.dec y.key := ⟨_, rfl⟩
          obtain ⟨o, ho⟩ : ∃ o, o = t.has y.key := ⟨_, rfl⟩
          obtain ⟨bi, hbi⟩ : ∃ bi, bt[m]? = some bi := ⟨_, List.getElem?_eq_getElem (by have := HLEN2.out; omega)⟩
          have HD := Lib.hid hd
          have HO := Lib.hid ho
          have HBI := Lib.hid hbi
          clear hd ho hbi
          refine wp_region_goods [some 76, some 77, some 78, some 79, some 80, some 81, some 82, some 83, some 84, some 85, some 86, some 87, some 88, some 89, some 90, some 91, some 92, some 93, some 75, some 94, some 95, some 8, none] [isW (.pointer (some ⟨cb, 0, none⟩)), fun L u w' => ∃ kb, u = .pointer (some ⟨kb, 0, none⟩) ∧ (L 17 = false → Many (fun i => i = w1.heap.size) w.heap.size w w' [(cb, t), (kb, t)]), isW (.slice (some ⟨b, off, none⟩) l.length c), isW (.int .i64 (m : Nat)), isW (.pointer (some ⟨b, off + m * 6, none⟩)), isW (.pointer (some ⟨b, off + m * 6 + 1, none⟩)), isW (.int .i64 y.src), isW (.slice (some ⟨b, off, none⟩) l.length c), isW (.int .i64 (m : Nat)), isW (.pointer (some ⟨b, off + m * 6, none⟩)), isW (.pointer (some ⟨b, off + m * 6 + 2, none⟩)), isW (.int .i64 y.tgt), isW (.slice (some ⟨b, off, none⟩) l.length c), isW (.int .i64 (m : Nat)), isW (.pointer (some ⟨b, off + m * 6, none⟩)), isW (.pointer (some ⟨b, off + m * 6 + 3, none⟩)), isW (.int .i64 y.cls), isW (.tuple #[.agg #[.int .u32 d.allowed, .int .u32 d.auditAllow, .int .u32 d.auditDeny, .bool d.permissive, .int .i64 d.seq], .bool o]), isW (.tuple #[.agg #[.int .u32 d.allowed, .int .u32 d.auditAllow, .int .u32 d.auditDeny, .bool d.permissive, .int .i64 d.seq], .bool o]), isW (.agg #[.int .u32 d.allowed, .int .u32 d.auditAllow, .int .u32 d.auditDeny, .bool d.permissive, .int .i64 d.seq]), isW (.bool o), fun L u w' => ∃ g cs, u = .pointer (some ⟨g, 0, none⟩) ∧ w.heap.size ≤ g ∧ Whole w' g 46 cs ∧ cs.size = 5 ∧ L 21 = true ∧ (L 22 = true → cs = #[.int .u32 d.allowed, .int .u32 d.auditAllow, .int .u32 d.auditDeny, .bool d.permissive, .int .i64 d.seq]), fun _ _ _ => True] (fun L w' => Many (fun i => i = w1.heap.size) w.heap.size w w' [(cb, t)] ∧ Whole w' w1.heap.size 4 (flags bt) ∧ (L 22 = true → L 21 = true)) [17, 22] (by kernel_rfl) (by kernel_rfl) (by kernel_rfl) rfl (by decide) rfl rfl (⟨HMT.out.under ((Below.refl _ _).drew), HDT.out, fun h => by cases h⟩) ⟨lastsW_is _, (fun L i v w' w'' hi ⟨kb, h1, h2⟩ hb => ⟨kb, h1, fun h => (h2 (Bool.or_eq_false_iff.1 h).2).under hb⟩), lastsW_is _, lastsW_is _, lastsW_is _, lastsW_is _, lastsW_is _, lastsW_is _, lastsW_is _, lastsW_is _, lastsW_is _, lastsW_is _, lastsW_is _, lastsW_is _, lastsW_is _, lastsW_is _, lastsW_is _, lastsW_is _, lastsW_is _, lastsW_is _, lastsW_is _, (fun L i v w' w'' hi ⟨g, cs, h1, h2, h3, h4, h6, h5⟩ hb => ⟨g, cs, h1, h2, Whole.under hb h3 h3.lt, h4, by simp [upd, h6], fun h => h5 (by rcases Bool.or_eq_true_iff.1 h with e | e; (have e' : (22 : Nat) = i := by simpa using e); subst e'; simp at hi; exact e)⟩), (fun _ _ _ _ _ _ _ _ => trivial), trivial⟩ ⟨?_, ?_, ?_, ?_, ?_, ?_, ?_, ?_, ?_, ?_, ?_, ?_, ?_, ?_, ?_, ?_, ?_, ?_, ?_, ?_, ?_, ?_, ?_, ?_⟩
          · intro L a wx Q' hL hi H F hK
            try dsimp only at hi
            have h5 : a.tmps[5]? = some (.pointer (some ⟨cb, 0, none⟩)) := F 5 rfl
            have HI := Lib.hid hi
            clear H F hi hL
            go_wp2_with fail
            exact hK _ _ (Below.refl _ _) HI.out rfl
          · intro L a wx Q' hL hi H F hK
            try dsimp only at hi
            obtain ⟨_, h76, rfl⟩ := H 0 ⟨.data, by simp, rfl⟩ _ rfl
            replace h76 := h76 _ rfl
            have HI := Lib.hid hi
            clear H F hi hL
            go_wp2_with (go_at_call 19; go_must (refine (copy_b 0 HI.out.1 rfl).mono ?_; rintro e w2 ⟨kb, rfl, hm2, hb2⟩; have HR := Lib.hid (And.intro hm2 hb2); clear hm2 hb2))
            exact hK _ _ HR.out.2 ⟨HI.out.1.under HR.out.2, Whole.under HR.out.2 HI.out.2.1 HI.out.2.1.lt, HI.out.2.2⟩ ⟨kb, rfl, fun _ => HR.out.1⟩
          · intro L a wx Q' hL hi H F hK
            try dsimp only at hi
            have h1 : a.tmps[1]? = some (.slice (some ⟨b, off, none⟩) l.length c) := F 1 rfl
            have HI := Lib.hid hi
            clear H F hi hL
            go_wp2_with fail
            exact hK _ _ (Below.refl _ _) HI.out rfl
          · intro L a wx Q' hL hi H F hK
            try dsimp only at hi
            have h7 : a.tmps[7]? = some (.int .i64 (m : Nat)) := F 7 rfl
            have HI := Lib.hid hi
            clear H F hi hL
            go_wp2_with fail
            exact hK _ _ (Below.refl _ _) HI.out rfl
          · intro L a wx Q' hL hi H F hK
            try dsimp only at hi
            obtain ⟨_, h78, rfl⟩ := H 2 ⟨.data, by simp, rfl⟩ _ rfl
            replace h78 := h78 _ rfl
            obtain ⟨_, h79, rfl⟩ := H 3 ⟨.data, by simp, rfl⟩ _ rfl
            replace h79 := h79 _ rfl
            have HI := Lib.hid hi
            clear H F hi hL
            go_wp2_with fail
            exact hK _ _ (Below.refl _ _) HI.out rfl
          · intro L a wx Q' hL hi H F hK
            try dsimp only at hi
            obtain ⟨_, h80, rfl⟩ := H 4 ⟨.data, by simp, rfl⟩ _ rfl
            replace h80 := h80 _ rfl
            have HI := Lib.hid hi
            clear H F hi hL
            go_wp2_with fail
            exact hK _ _ (Below.refl _ _) HI.out rfl
          · intro L a wx Q' hL hi H F hK
            try dsimp only at hi
            obtain ⟨_, h81, rfl⟩ := H 5 ⟨.data, by simp, rfl⟩ _ rfl
            replace h81 := h81 _ rfl
            have HI := Lib.hid hi
            clear H F hi hL
            have kq : wx.cell? ⟨b, off + m * 6 + 1, none⟩ = some (.int .i64 y.src) := (HCE.out wx HI.out.1.below).2.1
            go_wp2_with fail
            exact hK _ _ (Below.refl _ _) HI.out rfl
          · intro L a wx Q' hL hi H F hK
            try dsimp only at hi
            have h1 : a.tmps[1]? = some (.slice (some ⟨b, off, none⟩) l.length c) := F 1 rfl
            have HI := Lib.hid hi
            clear H F hi hL
            go_wp2_with fail
            exact hK _ _ (Below.refl _ _) HI.out rfl
          · intro L a wx Q' hL hi H F hK
            try dsimp only at hi
            have h7 : a.tmps[7]? = some (.int .i64 (m : Nat)) := F 7 rfl
            have HI := Lib.hid hi
            clear H F hi hL
            go_wp2_with fail
            exact hK _ _ (Below.refl _ _) HI.out rfl
          · intro L a wx Q' hL hi H F hK
            try dsimp only at hi
            obtain ⟨_, h83, rfl⟩ := H 7 ⟨.data, by simp, rfl⟩ _ rfl
            replace h83 := h83 _ rfl
            obtain ⟨_, h84, rfl⟩ := H 8 ⟨.data, by simp, rfl⟩ _ rfl
            replace h84 := h84 _ rfl
            have HI := Lib.hid hi
            clear H F hi hL
            go_wp2_with fail
            exact hK _ _ (Below.refl _ _) HI.out rfl
          · intro L a wx Q' hL hi H F hK
            try dsimp only at hi
            obtain ⟨_, h85, rfl⟩ := H 9 ⟨.data, by simp, rfl⟩ _ rfl
            replace h85 := h85 _ rfl
            have HI := Lib.hid hi
            clear H F hi hL
            go_wp2_with fail
            exact hK _ _ (Below.refl _ _) HI.out rfl
          · intro L a wx Q' hL hi H F hK
            try dsimp only at hi
            obtain ⟨_, h86, rfl⟩ := H 10 ⟨.data, by simp, rfl⟩ _ rfl
            replace h86 := h86 _ rfl
            have HI := Lib.hid hi
            clear H F hi hL
            have kq : wx.cell? ⟨b, off + m * 6 + 2, none⟩ = some (.int .i64 y.tgt) := (HCE.out wx HI.out.1.below).2.2.1
            go_wp2_with fail
            exact hK _ _ (Below.refl _ _) HI.out rfl
          · intro L a wx Q' hL hi H F hK
            try dsimp only at hi
            have h1 : a.tmps[1]? = some (.slice (some ⟨b, off, none⟩) l.length c) := F 1 rfl
            have HI := Lib.hid hi
            clear H F hi hL
            go_wp2_with fail
            exact hK _ _ (Below.refl _ _) HI.out rfl
          · intro L a wx Q' hL hi H F hK
            try dsimp only at hi
            have h7 : a.tmps[7]? = some (.int .i64 (m : Nat)) := F 7 rfl
            have HI := Lib.hid hi
            clear H F hi hL
            go_wp2_with fail
            exact hK _ _ (Below.refl _ _) HI.out rfl
          · intro L a wx Q' hL hi H F hK
            try dsimp only at hi
            obtain ⟨_, h88, rfl⟩ := H 12 ⟨.data, by simp, rfl⟩ _ rfl
            replace h88 := h88 _ rfl
            obtain ⟨_, h89, rfl⟩ := H 13 ⟨.data, by simp, rfl⟩ _ rfl
            replace h89 := h89 _ rfl
            have HI := Lib.hid hi
            clear H F hi hL
            go_wp2_with fail
            exact hK _ _ (Below.refl _ _) HI.out rfl
          · intro L a wx Q' hL hi H F hK
            try dsimp only at hi
            obtain ⟨_, h90, rfl⟩ := H 14 ⟨.data, by simp, rfl⟩ _ rfl
            replace h90 := h90 _ rfl
            have HI := Lib.hid hi
            clear H F hi hL
            go_wp2_with fail
            exact hK _ _ (Below.refl _ _) HI.out rfl
          · intro L a wx Q' hL hi H F hK
            try dsimp only at hi
            obtain ⟨_, h91, rfl⟩ := H 15 ⟨.data, by simp, rfl⟩ _ rfl
            replace h91 := h91 _ rfl
            have HI := Lib.hid hi
            clear H F hi hL
            have kq : wx.cell? ⟨b, off + m * 6 + 3, none⟩ = some (.int .i64 y.cls) := (HCE.out wx HI.out.1.below).2.2.2.1
            go_wp2_with fail
            exact hK _ _ (Below.refl _ _) HI.out rfl
          · intro L a wx Q' hL hi H F hK
            try dsimp only at hi
            obtain ⟨v77, h77, hv77⟩ := H 1 ⟨.data, by simp, rfl⟩ _ rfl
            replace h77 := h77 _ rfl
            have HV77 := Lib.hid hv77
            clear hv77
            obtain ⟨_, h82, rfl⟩ := H 6 ⟨.data, by simp, rfl⟩ _ rfl
            replace h82 := h82 _ rfl
            obtain ⟨_, h87, rfl⟩ := H 11 ⟨.data, by simp, rfl⟩ _ rfl
            replace h87 := h87 _ rfl
            obtain ⟨_, h92, rfl⟩ := H 16 ⟨.data, by simp, rfl⟩ _ rfl
            replace h92 := h92 _ rfl
            have HI := Lib.hid hi
            clear H F hi
            obtain ⟨kb, rfl, hkb⟩ := HV77.out
            have HKB := Lib.hid (hkb hL)
            clear HV77 hkb hL
            have HID := Lib.hid HI.out.2.1
            go_wp2_with (go_at_call 21; go_must (refine (find_k 1 y.key HKB.out rfl HCT.out HWY.out.key).mono ?_; rintro e w5 ⟨he, hm5, hk5⟩; rw [← HD.out, ← HO.out] at he; subst he; have HR := Lib.hid (And.intro hm5 hk5); clear hm5 hk5))
            exact hK _ _ (show KeepAll _ _ _ _ _ _ _ _ from ⟨(fun _ _ _ _ h => h), (fun _ _ v _ ⟨kb, h1, _⟩ => ⟨kb, h1, fun h => by simp [upd] at h⟩), (fun _ _ _ _ h => h), (fun _ _ _ _ h => h), (fun _ _ _ _ h => h), (fun _ _ _ _ h => h), (fun _ _ _ _ h => h), (fun _ _ _ _ h => h), (fun _ _ _ _ h => h), (fun _ _ _ _ h => h), (fun _ _ _ _ h => h), (fun _ _ _ _ h => h), (fun _ _ _ _ h => h), (fun _ _ _ _ h => h), (fun _ _ _ _ h => h), (fun _ _ _ _ h => h), (fun _ _ _ _ h => h), (fun h => absurd rfl h), (fun _ _ _ _ h => h), (fun _ _ _ _ h => h), (fun _ _ _ _ h => h), (fun _ _ v _ ⟨g, cs, h1, h2, h3, h4, h6, h5⟩ => ⟨g, cs, h1, h2, HR.out.2 g 46 cs (by decide) (by decide) h3, h4, h6, h5⟩), (fun _ _ _ _ _ => trivial), trivial⟩) ⟨HR.out.1.take (fun j x hx => by cases j with | zero => exact hx | succ j => simp at hx), HR.out.2 _ 4 _ (by decide) (by decide) HID.out, HI.out.2.2⟩ rfl
          · intro L a wx Q' hL hi H F hK
            try dsimp only at hi
            obtain ⟨_, h93, rfl⟩ := H 17 ⟨.data, by simp, rfl⟩ _ rfl
            replace h93 := h93 _ rfl
            have HI := Lib.hid hi
            clear H F hi hL
            go_wp2_with fail
            exact hK _ _ (Below.refl _ _) HI.out rfl
          · intro L a wx Q' hL hi H F hK
            try dsimp only at hi
            obtain ⟨_, h75, rfl⟩ := H 18 ⟨.data, by simp, rfl⟩ _ rfl
            replace h75 := h75 _ rfl
            have HI := Lib.hid hi
            clear H F hi hL
            go_wp2_with fail
            exact hK _ _ (Below.refl _ _) HI.out rfl
          · intro L a wx Q' hL hi H F hK
            try dsimp only at hi
            obtain ⟨_, h75, rfl⟩ := H 18 ⟨.data, by simp, rfl⟩ _ rfl
            replace h75 := h75 _ rfl
            have HI := Lib.hid hi
            clear H F hi hL
            go_wp2_with fail
            exact hK _ _ (Below.refl _ _) HI.out rfl
          · intro L a wx Q' hL hi H F hK
            try dsimp only at hi
            have HI := Lib.hid hi
            clear H F hi
            go_wp2_with fail
            have hn := Whole.new wx 46 #[.int .u32 0, .int .u32 0, .int .u32 0, .bool false, .int .i64 0]
            have hb := (Below.refl wx.heap.size wx).alloc (Nat.le_refl _) (.cells #[.int .u32 0, .int .u32 0, .int .u32 0, .bool false, .int .i64 0] 46)
            exact hK _ _ hb ⟨HI.out.1.under hb, Whole.under hb HI.out.2.1 HI.out.2.1.lt, fun _ => by simp [upd]⟩ ⟨wx.heap.size, _, rfl, HI.out.1.base, hn, rfl, by simp [upd], fun h => by rw [upd_ne _ (show (22 : Nat) ≠ 21 by decide)] at h; rw [HI.out.2.2 h] at hL; cases hL⟩
          · intro L a wx Q' hL hi H F hK
            try dsimp only at hi
            obtain ⟨_, h94, rfl⟩ := H 19 ⟨.data, by simp, rfl⟩ _ rfl
            replace h94 := h94 _ rfl
            obtain ⟨v8, h8, hv8⟩ := H 21 ⟨.data, by simp, rfl⟩ _ rfl
            replace h8 := h8 _ rfl
            have HV8 := Lib.hid hv8
            clear hv8
            have HI := Lib.hid hi
            clear H F hi hL
            obtain ⟨g, cs, rfl, hgB, hcs, hsz, hl21, -⟩ := HV8.out
            have HCS := Lib.hid hcs
            have HSZ := Lib.hid hsz
            clear HV8 hcs hsz
            refine wpList_store_blk rfl 46 _ _ rfl g 0 (.agg #[.int .u32 d.allowed, .int .u32 d.auditAllow, .int .u32 d.auditDeny, .bool d.permissive, .int .i64 d.seq]) (by simp [Act.eval, *]) (by simp [Act.eval, *]) 46 _ HCS.out (by rw [HSZ.out]; simp [Value.cells]) size46 rfl ?_
            intro w2 S2 W2
            rw [splice_all _ _ (by rw [HSZ.out]; rfl)] at W2
            exact hK undef w2 (show KeepAll _ _ _ _ _ _ _ _ from ⟨(fun _ _ _ _ h => h), (fun _ _ v _ ⟨kb, h1, h2⟩ => ⟨kb, h1, fun h => (h2 h).sto HCS.out (by decide) (by decide) S2 hgB⟩), (fun _ _ _ _ h => h), (fun _ _ _ _ h => h), (fun _ _ _ _ h => h), (fun _ _ _ _ h => h), (fun _ _ _ _ h => h), (fun _ _ _ _ h => h), (fun _ _ _ _ h => h), (fun _ _ _ _ h => h), (fun _ _ _ _ h => h), (fun _ _ _ _ h => h), (fun _ _ _ _ h => h), (fun _ _ _ _ h => h), (fun _ _ _ _ h => h), (fun _ _ _ _ h => h), (fun _ _ _ _ h => h), (fun _ _ _ _ h => h), (fun _ _ _ _ h => h), (fun _ _ _ _ h => h), (fun _ _ _ _ h => h), (fun _ _ v hv ⟨g', cs', h1, h2, h3, h4, h6, h5⟩ => ⟨g, _, (Option.some.inj ((hv 8 rfl).symm.trans h8)), hgB, W2, rfl, h6, fun _ => rfl⟩), (fun h => absurd rfl h), trivial⟩) ⟨HI.out.1.sto HCS.out (by decide) (by decide) S2 hgB, S2.whole HI.out.2.1 (fun e => whole_ne HI.out.2.1 HCS.out (by decide) e), fun _ => by rw [upd_ne _ (show (21 : Nat) ≠ 22 by decide)]; exact hl21⟩ trivial
          · intro a wx L hl hi hL Q' hK
            try dsimp only at hi
            have HB := Lib.hid hi
            have HL := Lib.hid hL
            clear hi hL
            obtain ⟨_, rfl, u77, hu77, _, rfl, _, rfl, _, rfl, _, rfl, _, rfl, _, rfl, _, rfl, _, rfl, _, rfl, _, rfl, _, rfl, _, rfl, _, rfl, _, rfl, _, rfl, _, rfl, _, rfl, _, rfl, _, rfl, u8, hu8, un22, hun22, rfl⟩ := hl
            have HU77 := Lib.hid hu77
            clear hu77
            have HU8 := Lib.hid hu8
            clear hu8
            have HUn22 := Lib.hid hun22
            clear hun22
            simp only [List.setIfInBounds_toArray, List.set_cons_zero, List.set_cons_succ]
            skip
            obtain ⟨g, cs, rfl, hgB, hgw, -, -, hgc⟩ := HU8.out
            have HGX := Lib.hid (show Whole wx g 46 #[.int .u32 d.allowed, .int .u32 d.auditAllow, .int .u32 d.auditDeny, .bool d.permissive, .int .i64 d.seq] from by rw [← hgc (HL.out 22 (by decide))]; exact hgw)
            have HMX := Lib.hid HB.out.1
            have HDX := Lib.hid HB.out.2.1
            clear HU8 HU77 HUn22 HB HL hgB hgw hgc
            have kd : wx.cell? ⟨w1.heap.size, m, none⟩ = some (.bool bi) := by rw [HDX.out.cell, flags_at, HBI.out]; rfl
            have hbo : bi = true → o = true := fun h => by rw [HO.out]; exact HSELF.out (by rw [HBI.out, h])
            cases o with
            | false =>
              obtain rfl : bi = false := by cases bi with | false => rfl | true => exact absurd (hbo rfl) (by decide)
              clear hbo
              go_wp2_with fail
              clear kd
              go_loopw [10] (fun i wr => Many (fun i => i = w1.heap.size) w.heap.size w wr [(cb, t)] ∧ Whole wr w1.heap.size 4 (flags bt) ∧ Whole wr g 46 #[.int .u32 d.allowed, .int .u32 d.auditAllow, .int .u32 d.auditDeny, .bool d.permissive, .int .i64 d.seq] ∧ ((i = .int .i64 (-1) ∧ ∀ n', n' ≤ m → ¬ Hit l bt n' y.key) ∨ ∃ p : Nat, p ≤ m ∧ i = .int .i64 p ∧ ∀ n', p < n' → n' ≤ m → ¬ Hit l bt n' y.key)) (fun i _ => (intOf i + 1).toNat)
              case atStart => exact ⟨HMX.out, HDX.out, HGX.out, .inr ⟨m, Nat.le_refl _, rfl, fun n' h1 h2 => by omega⟩⟩
              case round =>
                obtain ⟨hm2, hd2, hg2, hj⟩ := hrel
                have HMR := Lib.hid hm2
                have HDR := Lib.hid hd2
                have HGR := Lib.hid hg2
                clear hm2 hd2 hg2
                rcases hj with ⟨rfl, hno⟩ | ⟨p, hpm, rfl, hno⟩
                · have HNO := Lib.hid hno
                  clear hno
                  go_wp2_with fail
                  go_quiet (fail)
                  go_wp2_with fail
                  go_quiet (fail)
                  go_wp2_with fail
                  go_roundw
                  case rel => exact ⟨m + 1, t, bt, by omega, by go_num, HMR.out.under (below_drewN (Below.refl _ _) _), HDR.out, HLEN2.out, HCT0.out.mono (by omega), HLT.out⟩
                  case measure => simp [intOf] <;> omega
                · have HNO := Lib.hid hno
                  clear hno
                  obtain ⟨bp, hbp⟩ : ∃ bp, bt[p]? = some bp := ⟨_, List.getElem?_eq_getElem (by have := HLEN2.out; omega)⟩
                  obtain ⟨yp, hyp⟩ : ∃ yp, l[p]? = some yp := ⟨_, List.getElem?_eq_getElem (by omega)⟩
                  obtain ⟨b', off', hbo', hcp⟩ := H1.out p yp hyp
                  cases hbo'
                  have HCP := Lib.hid hcp
                  have HBP := Lib.hid hbp
                  have HYP := Lib.hid hyp
                  clear hbp hyp hcp
                  have hz : ¬ ((p : Int) < 0) := by omega
                  cases bp with
                  | false =>
                    have hdn := Lib.hid (down HNO.out hpm (fun hh => by have := hh.1; rw [HBP.out] at this; cases this))
                    have kd : wr.cell? ⟨w1.heap.size, p, none⟩ = some (.bool false) := by rw [HDR.out.cell, flags_at, HBP.out]; rfl
                    go_wp2_with fail
                    go_quiet (fail)
                    go_wp2_with fail
                    go_roundw
                    case rel =>
                      (repeat apply Exists.intro)
                      first | exact ⟨HMR.out.under (below_drewN (Below.refl _ _) _), HDR.out, HGR.out, hdn.out⟩ | exact ⟨⟨HMR.out.under (below_drewN (Below.refl _ _) _), HDR.out, HGR.out, hdn.out⟩, rfl⟩
                    case measure => simp [intOf] <;> omega
                  | true =>
                    obtain ⟨r, hr⟩ : ∃ r, r = decide (yp.key = y.key) := ⟨_, rfl⟩
                    have HRR := Lib.hid hr
                    clear hr
                    go_wp2_with fail
                    refine wp_region_last (fun w w' => Below w.heap.size w w') [some 105, some 106, some 107, some 108, some 109, some 110, some 111, some 112, some 113, some 114, some 115, some 116, some 117, some 118, some 119, some 120, some 121, some 122, some 123] [isV (.int .i64 (p : Nat)), isV (.bool true), isV (.bool true), isV (.slice (some ⟨w1.heap.size, 0, none⟩) l.length l.length), isV (.int .i64 (p : Nat)), isV (.pointer (some ⟨w1.heap.size, p, none⟩)), isV (.bool true), isV (.bool true), isV (.slice (some ⟨b, off, none⟩) l.length c), isV (.int .i64 (p : Nat)), isV (.pointer (some ⟨b, off + p * 6, none⟩)), isV (.agg #[.int .u8 yp.kind, .int .i64 yp.src, .int .i64 yp.tgt, .int .i64 yp.cls, .int .u32 yp.allowed, .int .i64 yp.seq]), isV (.slice (some ⟨b, off, none⟩) l.length c), isV (.int .i64 (m : Nat)), isV (.pointer (some ⟨b, off + m * 6, none⟩)), isV (.agg #[.int .u8 y.kind, .int .i64 y.src, .int .i64 y.tgt, .int .i64 y.cls, .int .u32 y.allowed, .int .i64 y.seq]), isV (.bool r), isV (.bool r), isV (.bool (!r))] (fun _ w' => Below wr.heap.size wr w') 19 (by kernel_rfl) (by kernel_rfl) (by kernel_rfl) rfl (by decide) rfl rfl ((Below.refl _ _).drew) ⟨lasts_is _, lasts_is _, lasts_is _, lasts_is _, lasts_is _, lasts_is _, lasts_is _, lasts_is _, lasts_is _, lasts_is _, lasts_is _, lasts_is _, lasts_is _, lasts_is _, lasts_is _, lasts_is _, lasts_is _, lasts_is _, lasts_is _, trivial⟩ ⟨(fun _ => lastsR_is _), (fun _ => lastsR_is _), (fun _ => lastsR_is _), (fun _ => lastsR_is _), (fun _ => lastsR_is _), (fun _ => lastsR_is _), (fun _ => lastsR_is _), (fun _ => lastsR_is _), (fun _ => lastsR_is _), (fun _ => lastsR_is _), (fun _ => lastsR_is _), (fun _ => lastsR_is _), (fun _ => lastsR_is _), (fun _ => lastsR_is _), (fun _ => lastsR_is _), (fun _ => lastsR_is _), (fun _ => lastsR_is _), (fun _ => lastsR_is _), (fun _ => lastsR_is _), trivial⟩ ⟨?_, ?_, ?_, ?_, ?_, ?_, ?_, ?_, ?_, ?_, ?_, ?_, ?_, ?_, ?_, ?_, ?_, ?_, ?_, ?_⟩
                    · intro L a wx Q' hL hi H F hK
                      try dsimp only at hi
                      have h10 : a.tmps[10]? = some (.int .i64 (p : Nat)) := F 10 rfl
                      have HI := Lib.hid hi
                      clear H F hi hL
                      go_wp2_with fail
                      exact hK _ _ (Below.refl _ _) HI.out rfl
                    · intro L a wx Q' hL hi H F hK
                      try dsimp only at hi
                      obtain ⟨_, h105, rfl⟩ := H 0 ⟨.data, by simp, rfl⟩ _ rfl
                      replace h105 := h105 _ rfl
                      have HI := Lib.hid hi
                      clear H F hi hL
                      go_wp2_with fail
                      exact hK _ _ (Below.refl _ _) HI.out rfl
                    · intro L a wx Q' hL hi H F hK
                      try dsimp only at hi
                      obtain ⟨_, h106, rfl⟩ := H 1 ⟨.data, by simp, rfl⟩ _ rfl
                      replace h106 := h106 _ rfl
                      have HI := Lib.hid hi
                      clear H F hi hL
                      go_wp2_with fail
                      exact hK _ _ (Below.refl _ _) HI.out rfl
                    · intro L a wx Q' hL hi H F hK
                      try dsimp only at hi
                      obtain ⟨_, h107, rfl⟩ := H 2 ⟨.guard, by simp, rfl⟩ _ rfl
                      replace h107 := h107 _ rfl
                      have h6 : a.tmps[6]? = some (.slice (some ⟨w1.heap.size, 0, none⟩) l.length l.length) := F 6 rfl
                      have HI := Lib.hid hi
                      clear H F hi hL
                      go_wp2_with fail
                      exact hK _ _ (Below.refl _ _) HI.out rfl
                    · intro L a wx Q' hL hi H F hK
                      try dsimp only at hi
                      obtain ⟨_, h107, rfl⟩ := H 2 ⟨.guard, by simp, rfl⟩ _ rfl
                      replace h107 := h107 _ rfl
                      have h10 : a.tmps[10]? = some (.int .i64 (p : Nat)) := F 10 rfl
                      have HI := Lib.hid hi
                      clear H F hi hL
                      go_wp2_with fail
                      exact hK _ _ (Below.refl _ _) HI.out rfl
                    · intro L a wx Q' hL hi H F hK
                      try dsimp only at hi
                      obtain ⟨_, h108, rfl⟩ := H 3 ⟨.data, by simp, rfl⟩ _ rfl
                      replace h108 := h108 _ rfl
                      obtain ⟨_, h109, rfl⟩ := H 4 ⟨.data, by simp, rfl⟩ _ rfl
                      replace h109 := h109 _ rfl
                      obtain ⟨_, h107, rfl⟩ := H 2 ⟨.guard, by simp, rfl⟩ _ rfl
                      replace h107 := h107 _ rfl
                      have HI := Lib.hid hi
                      clear H F hi hL
                      go_wp2_with fail
                      exact hK _ _ (Below.refl _ _) HI.out rfl
                    · intro L a wx Q' hL hi H F hK
                      try dsimp only at hi
                      obtain ⟨_, h110, rfl⟩ := H 5 ⟨.data, by simp, rfl⟩ _ rfl
                      replace h110 := h110 _ rfl
                      obtain ⟨_, h107, rfl⟩ := H 2 ⟨.guard, by simp, rfl⟩ _ rfl
                      replace h107 := h107 _ rfl
                      have HI := Lib.hid hi
                      clear H F hi hL
                      have kq : wx.cell? ⟨w1.heap.size, p, none⟩ = some (.bool true) := by rw [(Whole.under HI.out HDR.out HDR.out.lt).cell, flags_at, HBP.out]; rfl
                      go_wp2_with fail
                      exact hK _ _ (Below.refl _ _) HI.out rfl
                    · intro L a wx Q' hL hi H F hK
                      try dsimp only at hi
                      obtain ⟨_, h111, rfl⟩ := H 6 ⟨.data, by simp, rfl⟩ _ rfl
                      replace h111 := h111 _ rfl
                      obtain ⟨_, h107, rfl⟩ := H 2 ⟨.guard, by simp, rfl⟩ _ rfl
                      replace h107 := h107 _ rfl
                      have HI := Lib.hid hi
                      clear H F hi hL
                      go_wp2_with fail
                      exact hK _ _ (Below.refl _ _) HI.out rfl
                    · intro L a wx Q' hL hi H F hK
                      try dsimp only at hi
                      obtain ⟨_, h112, rfl⟩ := H 7 ⟨.guard, by simp, rfl⟩ _ rfl
                      replace h112 := h112 _ rfl
                      have h1 : a.tmps[1]? = some (.slice (some ⟨b, off, none⟩) l.length c) := F 1 rfl
                      have HI := Lib.hid hi
                      clear H F hi hL
                      go_wp2_with fail
                      exact hK _ _ (Below.refl _ _) HI.out rfl
                    · intro L a wx Q' hL hi H F hK
                      try dsimp only at hi
                      obtain ⟨_, h112, rfl⟩ := H 7 ⟨.guard, by simp, rfl⟩ _ rfl
                      replace h112 := h112 _ rfl
                      have h10 : a.tmps[10]? = some (.int .i64 (p : Nat)) := F 10 rfl
                      have HI := Lib.hid hi
                      clear H F hi hL
                      go_wp2_with fail
                      exact hK _ _ (Below.refl _ _) HI.out rfl
                    · intro L a wx Q' hL hi H F hK
                      try dsimp only at hi
                      obtain ⟨_, h113, rfl⟩ := H 8 ⟨.data, by simp, rfl⟩ _ rfl
                      replace h113 := h113 _ rfl
                      obtain ⟨_, h114, rfl⟩ := H 9 ⟨.data, by simp, rfl⟩ _ rfl
                      replace h114 := h114 _ rfl
                      obtain ⟨_, h112, rfl⟩ := H 7 ⟨.guard, by simp, rfl⟩ _ rfl
                      replace h112 := h112 _ rfl
                      have HI := Lib.hid hi
                      clear H F hi hL
                      go_wp2_with fail
                      exact hK _ _ (Below.refl _ _) HI.out rfl
                    · intro L a wx Q' hL hi H F hK
                      try dsimp only at hi
                      obtain ⟨_, h115, rfl⟩ := H 10 ⟨.data, by simp, rfl⟩ _ rfl
                      replace h115 := h115 _ rfl
                      obtain ⟨_, h112, rfl⟩ := H 7 ⟨.guard, by simp, rfl⟩ _ rfl
                      replace h112 := h112 _ rfl
                      have HI := Lib.hid hi
                      clear H F hi hL
                      obtain ⟨k0, k1, k2, k3, k4, k5⟩ := HCP.out wx ((HMR.out.under HI.out).below)
                      go_wp2_with fail
                      exact hK _ _ (Below.refl _ _) HI.out rfl
                    · intro L a wx Q' hL hi H F hK
                      try dsimp only at hi
                      obtain ⟨_, h112, rfl⟩ := H 7 ⟨.guard, by simp, rfl⟩ _ rfl
                      replace h112 := h112 _ rfl
                      have h1 : a.tmps[1]? = some (.slice (some ⟨b, off, none⟩) l.length c) := F 1 rfl
                      have HI := Lib.hid hi
                      clear H F hi hL
                      go_wp2_with fail
                      exact hK _ _ (Below.refl _ _) HI.out rfl
                    · intro L a wx Q' hL hi H F hK
                      try dsimp only at hi
                      obtain ⟨_, h112, rfl⟩ := H 7 ⟨.guard, by simp, rfl⟩ _ rfl
                      replace h112 := h112 _ rfl
                      have h7 : a.tmps[7]? = some (.int .i64 (m : Nat)) := F 7 rfl
                      have HI := Lib.hid hi
                      clear H F hi hL
                      go_wp2_with fail
                      exact hK _ _ (Below.refl _ _) HI.out rfl
                    · intro L a wx Q' hL hi H F hK
                      try dsimp only at hi
                      obtain ⟨_, h117, rfl⟩ := H 12 ⟨.data, by simp, rfl⟩ _ rfl
                      replace h117 := h117 _ rfl
                      obtain ⟨_, h118, rfl⟩ := H 13 ⟨.data, by simp, rfl⟩ _ rfl
                      replace h118 := h118 _ rfl
                      obtain ⟨_, h112, rfl⟩ := H 7 ⟨.guard, by simp, rfl⟩ _ rfl
                      replace h112 := h112 _ rfl
                      have HI := Lib.hid hi
                      clear H F hi hL
                      go_wp2_with fail
                      exact hK _ _ (Below.refl _ _) HI.out rfl
                    · intro L a wx Q' hL hi H F hK
                      try dsimp only at hi
                      obtain ⟨_, h119, rfl⟩ := H 14 ⟨.data, by simp, rfl⟩ _ rfl
                      replace h119 := h119 _ rfl
                      obtain ⟨_, h112, rfl⟩ := H 7 ⟨.guard, by simp, rfl⟩ _ rfl
                      replace h112 := h112 _ rfl
                      have HI := Lib.hid hi
                      clear H F hi hL
                      obtain ⟨k0, k1, k2, k3, k4, k5⟩ := HCE.out wx ((HMR.out.under HI.out).below)
                      go_wp2_with fail
                      exact hK _ _ (Below.refl _ _) HI.out rfl
                    · intro L a wx Q' hL hi H F hK
                      try dsimp only at hi
                      obtain ⟨_, h116, rfl⟩ := H 11 ⟨.data, by simp, rfl⟩ _ rfl
                      replace h116 := h116 _ rfl
                      obtain ⟨_, h120, rfl⟩ := H 15 ⟨.data, by simp, rfl⟩ _ rfl
                      replace h120 := h120 _ rfl
                      obtain ⟨_, h112, rfl⟩ := H 7 ⟨.guard, by simp, rfl⟩ _ rfl
                      replace h112 := h112 _ rfl
                      have HI := Lib.hid hi
                      clear H F hi hL
                      go_wp2_with (go_at_call 24; go_must (refine (same_any yp y _).mono ?_; rintro e w2 ⟨he, hb1⟩; rw [← HRR.out] at he; subst he))
                      exact hK _ _ hb1 (HI.out.trans (hb1.mono HI.out.size)) rfl
                    · intro L a wx Q' hL hi H F hK
                      try dsimp only at hi
                      obtain ⟨_, h112, rfl⟩ := H 7 ⟨.data, by simp, rfl⟩ _ rfl
                      replace h112 := h112 _ rfl
                      obtain ⟨_, h121, rfl⟩ := H 16 ⟨.data, by simp, rfl⟩ _ rfl
                      replace h121 := h121 _ rfl
                      obtain ⟨_, h107, rfl⟩ := H 2 ⟨.guard, by simp, rfl⟩ _ rfl
                      replace h107 := h107 _ rfl
                      have HI := Lib.hid hi
                      clear H F hi hL
                      go_wp2_with fail
                      exact hK _ _ (Below.refl _ _) HI.out rfl
                    · intro L a wx Q' hL hi H F hK
                      try dsimp only at hi
                      obtain ⟨_, h122, rfl⟩ := H 17 ⟨.data, by simp, rfl⟩ _ rfl
                      replace h122 := h122 _ rfl
                      obtain ⟨_, h107, rfl⟩ := H 2 ⟨.guard, by simp, rfl⟩ _ rfl
                      replace h107 := h107 _ rfl
                      have HI := Lib.hid hi
                      clear H F hi hL
                      go_wp2_with fail
                      exact hK _ _ (Below.refl _ _) HI.out rfl
                    · intro a wx hl L hi hL Q' hK
                      try dsimp only at hi
                      have HB := Lib.hid hi
                      clear hi hL
                      obtain ⟨_, rfl, _, rfl, _, rfl, _, rfl, _, rfl, _, rfl, _, rfl, _, rfl, _, rfl, _, rfl, _, rfl, _, rfl, _, rfl, _, rfl, _, rfl, _, rfl, _, rfl, _, rfl, _, rfl, rfl⟩ := hl
                      simp only [List.setIfInBounds_toArray, List.set_cons_zero, List.set_cons_succ]
                      skip
                      have HMQ0 := Lib.hid (HMR.out.under HB.out)
                      have HDQ0 := Lib.hid (Whole.under HB.out HDR.out HDR.out.lt)
                      have HGQ0 := Lib.hid (Whole.under HB.out HGR.out HGR.out.lt)
                      clear HB
                      cases r with
                      | false =>
                        have hdn := Lib.hid (down HNO.out hpm (fun hh => by
                          obtain ⟨_, o', ho', hk'⟩ := hh
                          rw [HYP.out] at ho'
                          cases ho'
                          have := of_decide_eq_false HRR.out.symm
                          exact this hk'))
                        go_wp2_with fail
                        go_roundw
                        case rel =>
                          (repeat apply Exists.intro)
                          first | exact ⟨HMQ0.out, HDQ0.out, HGQ0.out, hdn.out⟩ | exact ⟨⟨HMQ0.out, HDQ0.out, HGQ0.out, hdn.out⟩, rfl⟩
                        case measure => simp [intOf] <;> omega
                      | true =>
                        go_wp2_with fail
                        go_quiet (fail)
                        go_wp2_with fail
                        go_roundw
                        case rel => exact ⟨m + 1, t, bt, by omega, by go_num, HMQ0.out.under (below_drewN (Below.refl _ _) _), HDQ0.out, HLEN2.out, HCT0.out.mono (by omega), HLT.out⟩
                        case measure => simp [intOf] <;> omega
            | true =>
              clear hbo
              cases bi with
              | false =>
                go_wp2_with fail
                have HEX := Lib.hid (HLT.out.got y.key d (has_get HO.out.symm HD.out))
                clear kd
                go_loopw [10] (fun i wr => Many (fun i => i = w1.heap.size) w.heap.size w wr [(cb, t)] ∧ Whole wr w1.heap.size 4 (flags bt) ∧ Whole wr g 46 #[.int .u32 d.allowed, .int .u32 d.auditAllow, .int .u32 d.auditDeny, .bool d.permissive, .int .i64 d.seq] ∧ ((i = .int .i64 (-1) ∧ ∀ n', n' ≤ m → ¬ Hit l bt n' y.key) ∨ ∃ p : Nat, p ≤ m ∧ i = .int .i64 p ∧ ∀ n', p < n' → n' ≤ m → ¬ Hit l bt n' y.key)) (fun i _ => (intOf i + 1).toNat)
                case atStart => exact ⟨HMX.out, HDX.out, HGX.out, .inr ⟨m, Nat.le_refl _, rfl, fun n' h1 h2 => by omega⟩⟩
                case round =>
                  obtain ⟨hm2, hd2, hg2, hj⟩ := hrel
                  have HMR := Lib.hid hm2
                  have HDR := Lib.hid hd2
                  have HGR := Lib.hid hg2
                  clear hm2 hd2 hg2
                  rcases hj with ⟨rfl, hno⟩ | ⟨p, hpm, rfl, hno⟩
                  · have HNO := Lib.hid hno
                    clear hno
                    exfalso
                    obtain ⟨n', o', h1, h2, _⟩ := HEX.out
                    exact HNO.out n' (by omega) h2
                  · have HNO := Lib.hid hno
                    clear hno
                    obtain ⟨bp, hbp⟩ : ∃ bp, bt[p]? = some bp := ⟨_, List.getElem?_eq_getElem (by have := HLEN2.out; omega)⟩
                    obtain ⟨yp, hyp⟩ : ∃ yp, l[p]? = some yp := ⟨_, List.getElem?_eq_getElem (by omega)⟩
                    obtain ⟨b', off', hbo', hcp⟩ := H1.out p yp hyp
                    cases hbo'
                    have HCP := Lib.hid hcp
                    have HBP := Lib.hid hbp
                    have HYP := Lib.hid hyp
                    clear hbp hyp hcp
                    have hz : ¬ ((p : Int) < 0) := by omega
                    cases bp with
                    | false =>
                      have hdn := Lib.hid (down HNO.out hpm (fun hh => by have := hh.1; rw [HBP.out] at this; cases this))
                      have kd : wr.cell? ⟨w1.heap.size, p, none⟩ = some (.bool false) := by rw [HDR.out.cell, flags_at, HBP.out]; rfl
                      go_wp2_with fail
                      go_quiet (fail)
                      go_wp2_with fail
                      go_roundw
                      case rel =>
                        (repeat apply Exists.intro)
                        first | exact ⟨HMR.out.under (below_drewN (Below.refl _ _) _), HDR.out, HGR.out, hdn.out⟩ | exact ⟨⟨HMR.out.under (below_drewN (Below.refl _ _) _), HDR.out, HGR.out, hdn.out⟩, rfl⟩
                      case measure => simp [intOf] <;> omega
                    | true =>
                      obtain ⟨r, hr⟩ : ∃ r, r = decide (yp.key = y.key) := ⟨_, rfl⟩
                      have HRR := Lib.hid hr
                      clear hr
                      go_wp2_with fail
                      refine wp_region_last (fun w w' => Below w.heap.size w w') [some 105, some 106, some 107, some 108, some 109, some 110, some 111, some 112, some 113, some 114, some 115, some 116, some 117, some 118, some 119, some 120, some 121, some 122, some 123] [isV (.int .i64 (p : Nat)), isV (.bool true), isV (.bool true), isV (.slice (some ⟨w1.heap.size, 0, none⟩) l.length l.length), isV (.int .i64 (p : Nat)), isV (.pointer (some ⟨w1.heap.size, p, none⟩)), isV (.bool true), isV (.bool true), isV (.slice (some ⟨b, off, none⟩) l.length c), isV (.int .i64 (p : Nat)), isV (.pointer (some ⟨b, off + p * 6, none⟩)), isV (.agg #[.int .u8 yp.kind, .int .i64 yp.src, .int .i64 yp.tgt, .int .i64 yp.cls, .int .u32 yp.allowed, .int .i64 yp.seq]), isV (.slice (some ⟨b, off, none⟩) l.length c), isV (.int .i64 (m : Nat)), isV (.pointer (some ⟨b, off + m * 6, none⟩)), isV (.agg #[.int .u8 y.kind, .int .i64 y.src, .int .i64 y.tgt, .int .i64 y.cls, .int .u32 y.allowed, .int .i64 y.seq]), isV (.bool r), isV (.bool r), isV (.bool (!r))] (fun _ w' => Below wr.heap.size wr w') 19 (by kernel_rfl) (by kernel_rfl) (by kernel_rfl) rfl (by decide) rfl rfl ((Below.refl _ _).drew) ⟨lasts_is _, lasts_is _, lasts_is _, lasts_is _, lasts_is _, lasts_is _, lasts_is _, lasts_is _, lasts_is _, lasts_is _, lasts_is _, lasts_is _, lasts_is _, lasts_is _, lasts_is _, lasts_is _, lasts_is _, lasts_is _, lasts_is _, trivial⟩ ⟨(fun _ => lastsR_is _), (fun _ => lastsR_is _), (fun _ => lastsR_is _), (fun _ => lastsR_is _), (fun _ => lastsR_is _), (fun _ => lastsR_is _), (fun _ => lastsR_is _), (fun _ => lastsR_is _), (fun _ => lastsR_is _), (fun _ => lastsR_is _), (fun _ => lastsR_is _), (fun _ => lastsR_is _), (fun _ => lastsR_is _), (fun _ => lastsR_is _), (fun _ => lastsR_is _), (fun _ => lastsR_is _), (fun _ => lastsR_is _), (fun _ => lastsR_is _), (fun _ => lastsR_is _), trivial⟩ ⟨?_, ?_, ?_, ?_, ?_, ?_, ?_, ?_, ?_, ?_, ?_, ?_, ?_, ?_, ?_, ?_, ?_, ?_, ?_, ?_⟩
                      · intro L a wx Q' hL hi H F hK
                        try dsimp only at hi
                        have h10 : a.tmps[10]? = some (.int .i64 (p : Nat)) := F 10 rfl
                        have HI := Lib.hid hi
                        clear H F hi hL
                        go_wp2_with fail
                        exact hK _ _ (Below.refl _ _) HI.out rfl
                      · intro L a wx Q' hL hi H F hK
                        try dsimp only at hi
                        obtain ⟨_, h105, rfl⟩ := H 0 ⟨.data, by simp, rfl⟩ _ rfl
                        replace h105 := h105 _ rfl
                        have HI := Lib.hid hi
                        clear H F hi hL
                        go_wp2_with fail
                        exact hK _ _ (Below.refl _ _) HI.out rfl
                      · intro L a wx Q' hL hi H F hK
                        try dsimp only at hi
                        obtain ⟨_, h106, rfl⟩ := H 1 ⟨.data, by simp, rfl⟩ _ rfl
                        replace h106 := h106 _ rfl
                        have HI := Lib.hid hi
                        clear H F hi hL
                        go_wp2_with fail
                        exact hK _ _ (Below.refl _ _) HI.out rfl
                      · intro L a wx Q' hL hi H F hK
                        try dsimp only at hi
                        obtain ⟨_, h107, rfl⟩ := H 2 ⟨.guard, by simp, rfl⟩ _ rfl
                        replace h107 := h107 _ rfl
                        have h6 : a.tmps[6]? = some (.slice (some ⟨w1.heap.size, 0, none⟩) l.length l.length) := F 6 rfl
                        have HI := Lib.hid hi
                        clear H F hi hL
                        go_wp2_with fail
                        exact hK _ _ (Below.refl _ _) HI.out rfl
                      · intro L a wx Q' hL hi H F hK
                        try dsimp only at hi
                        obtain ⟨_, h107, rfl⟩ := H 2 ⟨.guard, by simp, rfl⟩ _ rfl
                        replace h107 := h107 _ rfl
                        have h10 : a.tmps[10]? = some (.int .i64 (p : Nat)) := F 10 rfl
                        have HI := Lib.hid hi
                        clear H F hi hL
                        go_wp2_with fail
                        exact hK _ _ (Below.refl _ _) HI.out rfl
                      · intro L a wx Q' hL hi H F hK
                        try dsimp only at hi
                        obtain ⟨_, h108, rfl⟩ := H 3 ⟨.data, by simp, rfl⟩ _ rfl
                        replace h108 := h108 _ rfl
                        obtain ⟨_, h109, rfl⟩ := H 4 ⟨.data, by simp, rfl⟩ _ rfl
                        replace h109 := h109 _ rfl
                        obtain ⟨_, h107, rfl⟩ := H 2 ⟨.guard, by simp, rfl⟩ _ rfl
                        replace h107 := h107 _ rfl
                        have HI := Lib.hid hi
                        clear H F hi hL
                        go_wp2_with fail
                        exact hK _ _ (Below.refl _ _) HI.out rfl
                      · intro L a wx Q' hL hi H F hK
                        try dsimp only at hi
                        obtain ⟨_, h110, rfl⟩ := H 5 ⟨.data, by simp, rfl⟩ _ rfl
                        replace h110 := h110 _ rfl
                        obtain ⟨_, h107, rfl⟩ := H 2 ⟨.guard, by simp, rfl⟩ _ rfl
                        replace h107 := h107 _ rfl
                        have HI := Lib.hid hi
                        clear H F hi hL
                        have kq : wx.cell? ⟨w1.heap.size, p, none⟩ = some (.bool true) := by rw [(Whole.under HI.out HDR.out HDR.out.lt).cell, flags_at, HBP.out]; rfl
                        go_wp2_with fail
                        exact hK _ _ (Below.refl _ _) HI.out rfl
                      · intro L a wx Q' hL hi H F hK
                        try dsimp only at hi
                        obtain ⟨_, h111, rfl⟩ := H 6 ⟨.data, by simp, rfl⟩ _ rfl
                        replace h111 := h111 _ rfl
                        obtain ⟨_, h107, rfl⟩ := H 2 ⟨.guard, by simp, rfl⟩ _ rfl
                        replace h107 := h107 _ rfl
                        have HI := Lib.hid hi
                        clear H F hi hL
                        go_wp2_with fail
                        exact hK _ _ (Below.refl _ _) HI.out rfl
                      · intro L a wx Q' hL hi H F hK
                        try dsimp only at hi
                        obtain ⟨_, h112, rfl⟩ := H 7 ⟨.guard, by simp, rfl⟩ _ rfl
                        replace h112 := h112 _ rfl
                        have h1 : a.tmps[1]? = some (.slice (some ⟨b, off, none⟩) l.length c) := F 1 rfl
                        have HI := Lib.hid hi
                        clear H F hi hL
                        go_wp2_with fail
                        exact hK _ _ (Below.refl _ _) HI.out rfl
                      · intro L a wx Q' hL hi H F hK
                        try dsimp only at hi
                        obtain ⟨_, h112, rfl⟩ := H 7 ⟨.guard, by simp, rfl⟩ _ rfl
                        replace h112 := h112 _ rfl
                        have h10 : a.tmps[10]? = some (.int .i64 (p : Nat)) := F 10 rfl
                        have HI := Lib.hid hi
                        clear H F hi hL
                        go_wp2_with fail
                        exact hK _ _ (Below.refl _ _) HI.out rfl
                      · intro L a wx Q' hL hi H F hK
                        try dsimp only at hi
                        obtain ⟨_, h113, rfl⟩ := H 8 ⟨.data, by simp, rfl⟩ _ rfl
                        replace h113 := h113 _ rfl
                        obtain ⟨_, h114, rfl⟩ := H 9 ⟨.data, by simp, rfl⟩ _ rfl
                        replace h114 := h114 _ rfl
                        obtain ⟨_, h112, rfl⟩ := H 7 ⟨.guard, by simp, rfl⟩ _ rfl
                        replace h112 := h112 _ rfl
                        have HI := Lib.hid hi
                        clear H F hi hL
                        go_wp2_with fail
                        exact hK _ _ (Below.refl _ _) HI.out rfl
                      · intro L a wx Q' hL hi H F hK
                        try dsimp only at hi
                        obtain ⟨_, h115, rfl⟩ := H 10 ⟨.data, by simp, rfl⟩ _ rfl
                        replace h115 := h115 _ rfl
                        obtain ⟨_, h112, rfl⟩ := H 7 ⟨.guard, by simp, rfl⟩ _ rfl
                        replace h112 := h112 _ rfl
                        have HI := Lib.hid hi
                        clear H F hi hL
                        obtain ⟨k0, k1, k2, k3, k4, k5⟩ := HCP.out wx ((HMR.out.under HI.out).below)
                        go_wp2_with fail
                        exact hK _ _ (Below.refl _ _) HI.out rfl
                      · intro L a wx Q' hL hi H F hK
                        try dsimp only at hi
                        obtain ⟨_, h112, rfl⟩ := H 7 ⟨.guard, by simp, rfl⟩ _ rfl
                        replace h112 := h112 _ rfl
                        have h1 : a.tmps[1]? = some (.slice (some ⟨b, off, none⟩) l.length c) := F 1 rfl
                        have HI := Lib.hid hi
                        clear H F hi hL
                        go_wp2_with fail
                        exact hK _ _ (Below.refl _ _) HI.out rfl
                      · intro L a wx Q' hL hi H F hK
                        try dsimp only at hi
                        obtain ⟨_, h112, rfl⟩ := H 7 ⟨.guard, by simp, rfl⟩ _ rfl
                        replace h112 := h112 _ rfl
                        have h7 : a.tmps[7]? = some (.int .i64 (m : Nat)) := F 7 rfl
                        have HI := Lib.hid hi
                        clear H F hi hL
                        go_wp2_with fail
                        exact hK _ _ (Below.refl _ _) HI.out rfl
                      · intro L a wx Q' hL hi H F hK
                        try dsimp only at hi
                        obtain ⟨_, h117, rfl⟩ := H 12 ⟨.data, by simp, rfl⟩ _ rfl
                        replace h117 := h117 _ rfl
                        obtain ⟨_, h118, rfl⟩ := H 13 ⟨.data, by simp, rfl⟩ _ rfl
                        replace h118 := h118 _ rfl
                        obtain ⟨_, h112, rfl⟩ := H 7 ⟨.guard, by simp, rfl⟩ _ rfl
                        replace h112 := h112 _ rfl
                        have HI := Lib.hid hi
                        clear H F hi hL
                        go_wp2_with fail
                        exact hK _ _ (Below.refl _ _) HI.out rfl
                      · intro L a wx Q' hL hi H F hK
                        try dsimp only at hi
                        obtain ⟨_, h119, rfl⟩ := H 14 ⟨.data, by simp, rfl⟩ _ rfl
                        replace h119 := h119 _ rfl
                        obtain ⟨_, h112, rfl⟩ := H 7 ⟨.guard, by simp, rfl⟩ _ rfl
                        replace h112 := h112 _ rfl
                        have HI := Lib.hid hi
                        clear H F hi hL
                        obtain ⟨k0, k1, k2, k3, k4, k5⟩ := HCE.out wx ((HMR.out.under HI.out).below)
                        go_wp2_with fail
                        exact hK _ _ (Below.refl _ _) HI.out rfl
                      · intro L a wx Q' hL hi H F hK
                        try dsimp only at hi
                        obtain ⟨_, h116, rfl⟩ := H 11 ⟨.data, by simp, rfl⟩ _ rfl
                        replace h116 := h116 _ rfl
                        obtain ⟨_, h120, rfl⟩ := H 15 ⟨.data, by simp, rfl⟩ _ rfl
                        replace h120 := h120 _ rfl
                        obtain ⟨_, h112, rfl⟩ := H 7 ⟨.guard, by simp, rfl⟩ _ rfl
                        replace h112 := h112 _ rfl
                        have HI := Lib.hid hi
                        clear H F hi hL
                        go_wp2_with (go_at_call 24; go_must (refine (same_any yp y _).mono ?_; rintro e w2 ⟨he, hb1⟩; rw [← HRR.out] at he; subst he))
                        exact hK _ _ hb1 (HI.out.trans (hb1.mono HI.out.size)) rfl
                      · intro L a wx Q' hL hi H F hK
                        try dsimp only at hi
                        obtain ⟨_, h112, rfl⟩ := H 7 ⟨.data, by simp, rfl⟩ _ rfl
                        replace h112 := h112 _ rfl
                        obtain ⟨_, h121, rfl⟩ := H 16 ⟨.data, by simp, rfl⟩ _ rfl
                        replace h121 := h121 _ rfl
                        obtain ⟨_, h107, rfl⟩ := H 2 ⟨.guard, by simp, rfl⟩ _ rfl
                        replace h107 := h107 _ rfl
                        have HI := Lib.hid hi
                        clear H F hi hL
                        go_wp2_with fail
                        exact hK _ _ (Below.refl _ _) HI.out rfl
                      · intro L a wx Q' hL hi H F hK
                        try dsimp only at hi
                        obtain ⟨_, h122, rfl⟩ := H 17 ⟨.data, by simp, rfl⟩ _ rfl
                        replace h122 := h122 _ rfl
                        obtain ⟨_, h107, rfl⟩ := H 2 ⟨.guard, by simp, rfl⟩ _ rfl
                        replace h107 := h107 _ rfl
                        have HI := Lib.hid hi
                        clear H F hi hL
                        go_wp2_with fail
                        exact hK _ _ (Below.refl _ _) HI.out rfl
                      · intro a wx hl L hi hL Q' hK
                        try dsimp only at hi
                        have HB := Lib.hid hi
                        clear hi hL
                        obtain ⟨_, rfl, _, rfl, _, rfl, _, rfl, _, rfl, _, rfl, _, rfl, _, rfl, _, rfl, _, rfl, _, rfl, _, rfl, _, rfl, _, rfl, _, rfl, _, rfl, _, rfl, _, rfl, _, rfl, rfl⟩ := hl
                        simp only [List.setIfInBounds_toArray, List.set_cons_zero, List.set_cons_succ]
                        skip
                        have HMQ0 := Lib.hid (HMR.out.under HB.out)
                        have HDQ0 := Lib.hid (Whole.under HB.out HDR.out HDR.out.lt)
                        have HGQ0 := Lib.hid (Whole.under HB.out HGR.out HGR.out.lt)
                        clear HB
                        cases r with
                        | false =>
                          have hdn := Lib.hid (down HNO.out hpm (fun hh => by
                            obtain ⟨_, o', ho', hk'⟩ := hh
                            rw [HYP.out] at ho'
                            cases ho'
                            have := of_decide_eq_false HRR.out.symm
                            exact this hk'))
                          go_wp2_with fail
                          go_roundw
                          case rel =>
                            (repeat apply Exists.intro)
                            first | exact ⟨HMQ0.out, HDQ0.out, HGQ0.out, hdn.out⟩ | exact ⟨⟨HMQ0.out, HDQ0.out, HGQ0.out, hdn.out⟩, rfl⟩
                          case measure => simp [intOf] <;> omega
                        | true =>
                          have HDP := Lib.hid (show (.returned (.agg #[.int .u32 yp.allowed, .int .u32 0, .int .u32 0, .bool false, .int .i64 yp.seq]) : Ending) = .returned (.agg #[.int .u32 d.allowed, .int .u32 d.auditAllow, .int .u32 d.auditDeny, .bool d.permissive, .int .i64 d.seq]) from by
                            obtain ⟨n', o', h1, h2, h3, h4, h5⟩ := HEX.out
                            have hhit : Hit l bt p y.key := ⟨HBP.out, yp, HYP.out, of_decide_eq_true HRR.out.symm⟩
                            have e : n' = p := by
                              rcases Nat.lt_trichotomy n' p with h | h | h
                              · exact absurd hhit (h5 p h (by omega))
                              · exact h
                              · exact absurd h2 (HNO.out n' h (by omega))
                            subst e
                            rw [HYP.out] at h3
                            cases h3
                            rw [h4]
                            rfl)
                          obtain ⟨wq, hwq⟩ : ∃ wq, wq = wx := ⟨_, rfl⟩
                          rw [← hwq] at HMQ0 HDQ0 HGQ0 ⊢
                          clear hwq
                          have HMQ := Lib.hid HMQ0.out
                          have HGQ := Lib.hid HGQ0.out
                          have HDQ := Lib.hid HDQ0.out
                          clear HMQ0 HGQ0 HDQ0
                          go_wp2_with fail
                          refine wp_region_last (fun w w' => Below w.heap.size w w') [some 127, some 128, some 129, some 130, some 131, some 132, some 133, some 134, some 135, some 136, some 137, some 138, some 139] [isV (.bool true), isV (.bool true), isV (.int .i64 (p : Nat)), isV (.bool false), isV (.bool false), isV (.agg #[.int .u32 d.allowed, .int .u32 d.auditAllow, .int .u32 d.auditDeny, .bool d.permissive, .int .i64 d.seq]), isV (.slice (some ⟨b, off, none⟩) l.length c), isV (.int .i64 (p : Nat)), isV (.pointer (some ⟨b, off + p * 6, none⟩)), isV (.agg #[.int .u8 yp.kind, .int .i64 yp.src, .int .i64 yp.tgt, .int .i64 yp.cls, .int .u32 yp.allowed, .int .i64 yp.seq]), isV (.agg #[.int .u32 d.allowed, .int .u32 d.auditAllow, .int .u32 d.auditDeny, .bool d.permissive, .int .i64 d.seq]), isV (.bool false), isV (.bool false)] (fun _ w' => Below wq.heap.size wq w') 13 (by kernel_rfl) (by kernel_rfl) (by kernel_rfl) rfl (by decide) rfl rfl ((Below.refl _ _).drew) ⟨lasts_is _, lasts_is _, lasts_is _, lasts_is _, lasts_is _, lasts_is _, lasts_is _, lasts_is _, lasts_is _, lasts_is _, lasts_is _, lasts_is _, lasts_is _, trivial⟩ ⟨(fun _ => lastsR_is _), (fun _ => lastsR_is _), (fun _ => lastsR_is _), (fun _ => lastsR_is _), (fun _ => lastsR_is _), (fun _ => lastsR_is _), (fun _ => lastsR_is _), (fun _ => lastsR_is _), (fun _ => lastsR_is _), (fun _ => lastsR_is _), (fun _ => lastsR_is _), (fun _ => lastsR_is _), (fun _ => lastsR_is _), trivial⟩ ⟨?_, ?_, ?_, ?_, ?_, ?_, ?_, ?_, ?_, ?_, ?_, ?_, ?_, ?_⟩
                          · intro L a wx Q' hL hi H F hK
                            try dsimp only at hi
                            have h9 : a.tmps[9]? = some (.bool true) := F 9 rfl
                            have HI := Lib.hid hi
                            clear H F hi hL
                            go_wp2_with fail
                            exact hK _ _ (Below.refl _ _) HI.out rfl
                          · intro L a wx Q' hL hi H F hK
                            try dsimp only at hi
                            obtain ⟨_, h127, rfl⟩ := H 0 ⟨.data, by simp, rfl⟩ _ rfl
                            replace h127 := h127 _ rfl
                            have HI := Lib.hid hi
                            clear H F hi hL
                            go_wp2_with fail
                            exact hK _ _ (Below.refl _ _) HI.out rfl
                          · intro L a wx Q' hL hi H F hK
                            try dsimp only at hi
                            obtain ⟨_, h128, rfl⟩ := H 1 ⟨.guard, by simp, rfl⟩ _ rfl
                            replace h128 := h128 _ rfl
                            have h10 : a.tmps[10]? = some (.int .i64 (p : Nat)) := F 10 rfl
                            have HI := Lib.hid hi
                            clear H F hi hL
                            go_wp2_with fail
                            exact hK _ _ (Below.refl _ _) HI.out rfl
                          · intro L a wx Q' hL hi H F hK
                            try dsimp only at hi
                            obtain ⟨_, h129, rfl⟩ := H 2 ⟨.data, by simp, rfl⟩ _ rfl
                            replace h129 := h129 _ rfl
                            obtain ⟨_, h128, rfl⟩ := H 1 ⟨.guard, by simp, rfl⟩ _ rfl
                            replace h128 := h128 _ rfl
                            have HI := Lib.hid hi
                            clear H F hi hL
                            go_wp2_with fail
                            exact hK _ _ (Below.refl _ _) HI.out rfl
                          · intro L a wx Q' hL hi H F hK
                            try dsimp only at hi
                            obtain ⟨_, h130, rfl⟩ := H 3 ⟨.data, by simp, rfl⟩ _ rfl
                            replace h130 := h130 _ rfl
                            obtain ⟨_, h128, rfl⟩ := H 1 ⟨.guard, by simp, rfl⟩ _ rfl
                            replace h128 := h128 _ rfl
                            have HI := Lib.hid hi
                            clear H F hi hL
                            go_wp2_with fail
                            exact hK _ _ (Below.refl _ _) HI.out rfl
                          · intro L a wx Q' hL hi H F hK
                            try dsimp only at hi
                            obtain ⟨_, h131, rfl⟩ := H 4 ⟨.guard, by simp, rfl⟩ _ rfl
                            replace h131 := h131 _ rfl
                            have h8 : a.tmps[8]? = some (.pointer (some ⟨g, 0, none⟩)) := F 8 rfl
                            have HI := Lib.hid hi
                            clear H F hi hL
                            obtain ⟨e0, e1, e2, e3, e4⟩ := five46 (Whole.under HI.out HGQ.out HGQ.out.lt)
                            go_wp2_with fail
                            exact hK _ _ (Below.refl _ _) HI.out rfl
                          · intro L a wx Q' hL hi H F hK
                            try dsimp only at hi
                            obtain ⟨_, h131, rfl⟩ := H 4 ⟨.guard, by simp, rfl⟩ _ rfl
                            replace h131 := h131 _ rfl
                            have h1 : a.tmps[1]? = some (.slice (some ⟨b, off, none⟩) l.length c) := F 1 rfl
                            have HI := Lib.hid hi
                            clear H F hi hL
                            go_wp2_with fail
                            exact hK _ _ (Below.refl _ _) HI.out rfl
                          · intro L a wx Q' hL hi H F hK
                            try dsimp only at hi
                            obtain ⟨_, h131, rfl⟩ := H 4 ⟨.guard, by simp, rfl⟩ _ rfl
                            replace h131 := h131 _ rfl
                            have h10 : a.tmps[10]? = some (.int .i64 (p : Nat)) := F 10 rfl
                            have HI := Lib.hid hi
                            clear H F hi hL
                            go_wp2_with fail
                            exact hK _ _ (Below.refl _ _) HI.out rfl
                          · intro L a wx Q' hL hi H F hK
                            try dsimp only at hi
                            obtain ⟨_, h133, rfl⟩ := H 6 ⟨.data, by simp, rfl⟩ _ rfl
                            replace h133 := h133 _ rfl
                            obtain ⟨_, h134, rfl⟩ := H 7 ⟨.data, by simp, rfl⟩ _ rfl
                            replace h134 := h134 _ rfl
                            obtain ⟨_, h131, rfl⟩ := H 4 ⟨.guard, by simp, rfl⟩ _ rfl
                            replace h131 := h131 _ rfl
                            have HI := Lib.hid hi
                            clear H F hi hL
                            go_wp2_with fail
                            exact hK _ _ (Below.refl _ _) HI.out rfl
                          · intro L a wx Q' hL hi H F hK
                            try dsimp only at hi
                            obtain ⟨_, h135, rfl⟩ := H 8 ⟨.data, by simp, rfl⟩ _ rfl
                            replace h135 := h135 _ rfl
                            obtain ⟨_, h131, rfl⟩ := H 4 ⟨.guard, by simp, rfl⟩ _ rfl
                            replace h131 := h131 _ rfl
                            have HI := Lib.hid hi
                            clear H F hi hL
                            obtain ⟨k0, k1, k2, k3, k4, k5⟩ := HCP.out wx ((HMQ.out.under HI.out).below)
                            go_wp2_with fail
                            exact hK _ _ (Below.refl _ _) HI.out rfl
                          · intro L a wx Q' hL hi H F hK
                            try dsimp only at hi
                            obtain ⟨_, h136, rfl⟩ := H 9 ⟨.data, by simp, rfl⟩ _ rfl
                            replace h136 := h136 _ rfl
                            obtain ⟨_, h131, rfl⟩ := H 4 ⟨.guard, by simp, rfl⟩ _ rfl
                            replace h131 := h131 _ rfl
                            have HI := Lib.hid hi
                            clear H F hi hL
                            go_wp2_with (go_at_call 23; go_must (refine (decision_any yp _).mono ?_; rintro e w2 ⟨he, hb1⟩; rw [HDP.out] at he; subst he))
                            exact hK _ _ hb1 (HI.out.trans (hb1.mono HI.out.size)) rfl
                          · intro L a wx Q' hL hi H F hK
                            try dsimp only at hi
                            obtain ⟨_, h132, rfl⟩ := H 5 ⟨.data, by simp, rfl⟩ _ rfl
                            replace h132 := h132 _ rfl
                            obtain ⟨_, h137, rfl⟩ := H 10 ⟨.data, by simp, rfl⟩ _ rfl
                            replace h137 := h137 _ rfl
                            obtain ⟨_, h131, rfl⟩ := H 4 ⟨.guard, by simp, rfl⟩ _ rfl
                            replace h131 := h131 _ rfl
                            have HI := Lib.hid hi
                            clear H F hi hL
                            have q := eq_dec d.allowed d.auditAllow d.auditDeny d.seq d.permissive
                            go_wp2_with fail
                            exact hK _ _ (Below.refl _ _) HI.out rfl
                          · intro L a wx Q' hL hi H F hK
                            try dsimp only at hi
                            obtain ⟨_, h131, rfl⟩ := H 4 ⟨.data, by simp, rfl⟩ _ rfl
                            replace h131 := h131 _ rfl
                            obtain ⟨_, h138, rfl⟩ := H 11 ⟨.data, by simp, rfl⟩ _ rfl
                            replace h138 := h138 _ rfl
                            obtain ⟨_, h128, rfl⟩ := H 1 ⟨.guard, by simp, rfl⟩ _ rfl
                            replace h128 := h128 _ rfl
                            have HI := Lib.hid hi
                            clear H F hi hL
                            go_wp2_with fail
                            exact hK _ _ (Below.refl _ _) HI.out rfl
                          · intro a wx hl L hi hL Q' hK
                            try dsimp only at hi
                            have HB := Lib.hid hi
                            clear hi hL
                            obtain ⟨_, rfl, _, rfl, _, rfl, _, rfl, _, rfl, _, rfl, _, rfl, _, rfl, _, rfl, _, rfl, _, rfl, _, rfl, _, rfl, rfl⟩ := hl
                            simp only [List.setIfInBounds_toArray, List.set_cons_zero, List.set_cons_succ]
                            skip
                            go_wp2_with fail
                            go_roundw
                            case rel => exact ⟨m + 1, t, bt, by omega, by go_num, HMQ.out.under HB.out, Whole.under HB.out HDQ.out HDQ.out.lt, HLEN2.out, HCT0.out.mono (by omega), HLT.out⟩
                            case measure => simp [intOf] <;> omega
              | true =>
                go_wp2_with fail
                have HEX := Lib.hid (HLT.out.got y.key d (has_get HO.out.symm HD.out))
                clear kd
                go_loopw [10] (fun i wr => Many (fun i => i = w1.heap.size) w.heap.size w wr [(cb, t)] ∧ Whole wr w1.heap.size 4 (flags bt) ∧ Whole wr g 46 #[.int .u32 d.allowed, .int .u32 d.auditAllow, .int .u32 d.auditDeny, .bool d.permissive, .int .i64 d.seq] ∧ ((i = .int .i64 (-1) ∧ ∀ n', n' ≤ m → ¬ Hit l bt n' y.key) ∨ ∃ p : Nat, p ≤ m ∧ i = .int .i64 p ∧ ∀ n', p < n' → n' ≤ m → ¬ Hit l bt n' y.key)) (fun i _ => (intOf i + 1).toNat)
                case atStart => exact ⟨HMX.out, HDX.out, HGX.out, .inr ⟨m, Nat.le_refl _, rfl, fun n' h1 h2 => by omega⟩⟩
                case round =>
                  obtain ⟨hm2, hd2, hg2, hj⟩ := hrel
                  have HMR := Lib.hid hm2
                  have HDR := Lib.hid hd2
                  have HGR := Lib.hid hg2
                  clear hm2 hd2 hg2
                  rcases hj with ⟨rfl, hno⟩ | ⟨p, hpm, rfl, hno⟩
                  · have HNO := Lib.hid hno
                    clear hno
                    exfalso
                    obtain ⟨n', o', h1, h2, _⟩ := HEX.out
                    exact HNO.out n' (by omega) h2
                  · have HNO := Lib.hid hno
                    clear hno
                    obtain ⟨bp, hbp⟩ : ∃ bp, bt[p]? = some bp := ⟨_, List.getElem?_eq_getElem (by have := HLEN2.out; omega)⟩
                    obtain ⟨yp, hyp⟩ : ∃ yp, l[p]? = some yp := ⟨_, List.getElem?_eq_getElem (by omega)⟩
                    obtain ⟨b', off', hbo', hcp⟩ := H1.out p yp hyp
                    cases hbo'
                    have HCP := Lib.hid hcp
                    have HBP := Lib.hid hbp
                    have HYP := Lib.hid hyp
                    clear hbp hyp hcp
                    have hz : ¬ ((p : Int) < 0) := by omega
                    cases bp with
                    | false =>
                      have hdn := Lib.hid (down HNO.out hpm (fun hh => by have := hh.1; rw [HBP.out] at this; cases this))
                      have kd : wr.cell? ⟨w1.heap.size, p, none⟩ = some (.bool false) := by rw [HDR.out.cell, flags_at, HBP.out]; rfl
                      go_wp2_with fail
                      go_quiet (fail)
                      go_wp2_with fail
                      go_roundw
                      case rel =>
                        (repeat apply Exists.intro)
                        first | exact ⟨HMR.out.under (below_drewN (Below.refl _ _) _), HDR.out, HGR.out, hdn.out⟩ | exact ⟨⟨HMR.out.under (below_drewN (Below.refl _ _) _), HDR.out, HGR.out, hdn.out⟩, rfl⟩
                      case measure => simp [intOf] <;> omega
                    | true =>
                      obtain ⟨r, hr⟩ : ∃ r, r = decide (yp.key = y.key) := ⟨_, rfl⟩
                      have HRR := Lib.hid hr
                      clear hr
                      go_wp2_with fail
                      refine wp_region_last (fun w w' => Below w.heap.size w w') [some 105, some 106, some 107, some 108, some 109, some 110, some 111, some 112, some 113, some 114, some 115, some 116, some 117, some 118, some 119, some 120, some 121, some 122, some 123] [isV (.int .i64 (p : Nat)), isV (.bool true), isV (.bool true), isV (.slice (some ⟨w1.heap.size, 0, none⟩) l.length l.length), isV (.int .i64 (p : Nat)), isV (.pointer (some ⟨w1.heap.size, p, none⟩)), isV (.bool true), isV (.bool true), isV (.slice (some ⟨b, off, none⟩) l.length c), isV (.int .i64 (p : Nat)), isV (.pointer (some ⟨b, off + p * 6, none⟩)), isV (.agg #[.int .u8 yp.kind, .int .i64 yp.src, .int .i64 yp.tgt, .int .i64 yp.cls, .int .u32 yp.allowed, .int .i64 yp.seq]), isV (.slice (some ⟨b, off, none⟩) l.length c), isV (.int .i64 (m : Nat)), isV (.pointer (some ⟨b, off + m * 6, none⟩)), isV (.agg #[.int .u8 y.kind, .int .i64 y.src, .int .i64 y.tgt, .int .i64 y.cls, .int .u32 y.allowed, .int .i64 y.seq]), isV (.bool r), isV (.bool r), isV (.bool (!r))] (fun _ w' => Below wr.heap.size wr w') 19 (by kernel_rfl) (by kernel_rfl) (by kernel_rfl) rfl (by decide) rfl rfl ((Below.refl _ _).drew) ⟨lasts_is _, lasts_is _, lasts_is _, lasts_is _, lasts_is _, lasts_is _, lasts_is _, lasts_is _, lasts_is _, lasts_is _, lasts_is _, lasts_is _, lasts_is _, lasts_is _, lasts_is _, lasts_is _, lasts_is _, lasts_is _, lasts_is _, trivial⟩ ⟨(fun _ => lastsR_is _), (fun _ => lastsR_is _), (fun _ => lastsR_is _), (fun _ => lastsR_is _), (fun _ => lastsR_is _), (fun _ => lastsR_is _), (fun _ => lastsR_is _), (fun _ => lastsR_is _), (fun _ => lastsR_is _), (fun _ => lastsR_is _), (fun _ => lastsR_is _), (fun _ => lastsR_is _), (fun _ => lastsR_is _), (fun _ => lastsR_is _), (fun _ => lastsR_is _), (fun _ => lastsR_is _), (fun _ => lastsR_is _), (fun _ => lastsR_is _), (fun _ => lastsR_is _), trivial⟩ ⟨?_, ?_, ?_, ?_, ?_, ?_, ?_, ?_, ?_, ?_, ?_, ?_, ?_, ?_, ?_, ?_, ?_, ?_, ?_, ?_⟩
                      · intro L a wx Q' hL hi H F hK
                        try dsimp only at hi
                        have h10 : a.tmps[10]? = some (.int .i64 (p : Nat)) := F 10 rfl
                        have HI := Lib.hid hi
                        clear H F hi hL
                        go_wp2_with fail
                        exact hK _ _ (Below.refl _ _) HI.out rfl
                      · intro L a wx Q' hL hi H F hK
                        try dsimp only at hi
                        obtain ⟨_, h105, rfl⟩ := H 0 ⟨.data, by simp, rfl⟩ _ rfl
                        replace h105 := h105 _ rfl
                        have HI := Lib.hid hi
                        clear H F hi hL
                        go_wp2_with fail
                        exact hK _ _ (Below.refl _ _) HI.out rfl
                      · intro L a wx Q' hL hi H F hK
                        try dsimp only at hi
                        obtain ⟨_, h106, rfl⟩ := H 1 ⟨.data, by simp, rfl⟩ _ rfl
                        replace h106 := h106 _ rfl
                        have HI := Lib.hid hi
                        clear H F hi hL
                        go_wp2_with fail
                        exact hK _ _ (Below.refl _ _) HI.out rfl
                      · intro L a wx Q' hL hi H F hK
                        try dsimp only at hi
                        obtain ⟨_, h107, rfl⟩ := H 2 ⟨.guard, by simp, rfl⟩ _ rfl
                        replace h107 := h107 _ rfl
                        have h6 : a.tmps[6]? = some (.slice (some ⟨w1.heap.size, 0, none⟩) l.length l.length) := F 6 rfl
                        have HI := Lib.hid hi
                        clear H F hi hL
                        go_wp2_with fail
                        exact hK _ _ (Below.refl _ _) HI.out rfl
                      · intro L a wx Q' hL hi H F hK
                        try dsimp only at hi
                        obtain ⟨_, h107, rfl⟩ := H 2 ⟨.guard, by simp, rfl⟩ _ rfl
                        replace h107 := h107 _ rfl
                        have h10 : a.tmps[10]? = some (.int .i64 (p : Nat)) := F 10 rfl
                        have HI := Lib.hid hi
                        clear H F hi hL
                        go_wp2_with fail
                        exact hK _ _ (Below.refl _ _) HI.out rfl
                      · intro L a wx Q' hL hi H F hK
                        try dsimp only at hi
                        obtain ⟨_, h108, rfl⟩ := H 3 ⟨.data, by simp, rfl⟩ _ rfl
                        replace h108 := h108 _ rfl
                        obtain ⟨_, h109, rfl⟩ := H 4 ⟨.data, by simp, rfl⟩ _ rfl
                        replace h109 := h109 _ rfl
                        obtain ⟨_, h107, rfl⟩ := H 2 ⟨.guard, by simp, rfl⟩ _ rfl
                        replace h107 := h107 _ rfl
                        have HI := Lib.hid hi
                        clear H F hi hL
                        go_wp2_with fail
                        exact hK _ _ (Below.refl _ _) HI.out rfl
                      · intro L a wx Q' hL hi H F hK
                        try dsimp only at hi
                        obtain ⟨_, h110, rfl⟩ := H 5 ⟨.data, by simp, rfl⟩ _ rfl
                        replace h110 := h110 _ rfl
                        obtain ⟨_, h107, rfl⟩ := H 2 ⟨.guard, by simp, rfl⟩ _ rfl
                        replace h107 := h107 _ rfl
                        have HI := Lib.hid hi
                        clear H F hi hL
                        have kq : wx.cell? ⟨w1.heap.size, p, none⟩ = some (.bool true) := by rw [(Whole.under HI.out HDR.out HDR.out.lt).cell, flags_at, HBP.out]; rfl
                        go_wp2_with fail
                        exact hK _ _ (Below.refl _ _) HI.out rfl
                      · intro L a wx Q' hL hi H F hK
                        try dsimp only at hi
                        obtain ⟨_, h111, rfl⟩ := H 6 ⟨.data, by simp, rfl⟩ _ rfl
                        replace h111 := h111 _ rfl
                        obtain ⟨_, h107, rfl⟩ := H 2 ⟨.guard, by simp, rfl⟩ _ rfl
                        replace h107 := h107 _ rfl
                        have HI := Lib.hid hi
                        clear H F hi hL
                        go_wp2_with fail
                        exact hK _ _ (Below.refl _ _) HI.out rfl
                      · intro L a wx Q' hL hi H F hK
                        try dsimp only at hi
                        obtain ⟨_, h112, rfl⟩ := H 7 ⟨.guard, by simp, rfl⟩ _ rfl
                        replace h112 := h112 _ rfl
                        have h1 : a.tmps[1]? = some (.slice (some ⟨b, off, none⟩) l.length c) := F 1 rfl
                        have HI := Lib.hid hi
                        clear H F hi hL
                        go_wp2_with fail
                        exact hK _ _ (Below.refl _ _) HI.out rfl
                      · intro L a wx Q' hL hi H F hK
                        try dsimp only at hi
                        obtain ⟨_, h112, rfl⟩ := H 7 ⟨.guard, by simp, rfl⟩ _ rfl
                        replace h112 := h112 _ rfl
                        have h10 : a.tmps[10]? = some (.int .i64 (p : Nat)) := F 10 rfl
                        have HI := Lib.hid hi
                        clear H F hi hL
                        go_wp2_with fail
                        exact hK _ _ (Below.refl _ _) HI.out rfl
                      · intro L a wx Q' hL hi H F hK
                        try dsimp only at hi
                        obtain ⟨_, h113, rfl⟩ := H 8 ⟨.data, by simp, rfl⟩ _ rfl
                        replace h113 := h113 _ rfl
                        obtain ⟨_, h114, rfl⟩ := H 9 ⟨.data, by simp, rfl⟩ _ rfl
                        replace h114 := h114 _ rfl
                        obtain ⟨_, h112, rfl⟩ := H 7 ⟨.guard, by simp, rfl⟩ _ rfl
                        replace h112 := h112 _ rfl
                        have HI := Lib.hid hi
                        clear H F hi hL
                        go_wp2_with fail
                        exact hK _ _ (Below.refl _ _) HI.out rfl
                      · intro L a wx Q' hL hi H F hK
                        try dsimp only at hi
                        obtain ⟨_, h115, rfl⟩ := H 10 ⟨.data, by simp, rfl⟩ _ rfl
                        replace h115 := h115 _ rfl
                        obtain ⟨_, h112, rfl⟩ := H 7 ⟨.guard, by simp, rfl⟩ _ rfl
                        replace h112 := h112 _ rfl
                        have HI := Lib.hid hi
                        clear H F hi hL
                        obtain ⟨k0, k1, k2, k3, k4, k5⟩ := HCP.out wx ((HMR.out.under HI.out).below)
                        go_wp2_with fail
                        exact hK _ _ (Below.refl _ _) HI.out rfl
                      · intro L a wx Q' hL hi H F hK
                        try dsimp only at hi
                        obtain ⟨_, h112, rfl⟩ := H 7 ⟨.guard, by simp, rfl⟩ _ rfl
                        replace h112 := h112 _ rfl
                        have h1 : a.tmps[1]? = some (.slice (some ⟨b, off, none⟩) l.length c) := F 1 rfl
                        have HI := Lib.hid hi
                        clear H F hi hL
                        go_wp2_with fail
                        exact hK _ _ (Below.refl _ _) HI.out rfl
                      · intro L a wx Q' hL hi H F hK
                        try dsimp only at hi
                        obtain ⟨_, h112, rfl⟩ := H 7 ⟨.guard, by simp, rfl⟩ _ rfl
                        replace h112 := h112 _ rfl
                        have h7 : a.tmps[7]? = some (.int .i64 (m : Nat)) := F 7 rfl
                        have HI := Lib.hid hi
                        clear H F hi hL
                        go_wp2_with fail
                        exact hK _ _ (Below.refl _ _) HI.out rfl
                      · intro L a wx Q' hL hi H F hK
                        try dsimp only at hi
                        obtain ⟨_, h117, rfl⟩ := H 12 ⟨.data, by simp, rfl⟩ _ rfl
                        replace h117 := h117 _ rfl
                        obtain ⟨_, h118, rfl⟩ := H 13 ⟨.data, by simp, rfl⟩ _ rfl
                        replace h118 := h118 _ rfl
                        obtain ⟨_, h112, rfl⟩ := H 7 ⟨.guard, by simp, rfl⟩ _ rfl
                        replace h112 := h112 _ rfl
                        have HI := Lib.hid hi
                        clear H F hi hL
                        go_wp2_with fail
                        exact hK _ _ (Below.refl _ _) HI.out rfl
                      · intro L a wx Q' hL hi H F hK
                        try dsimp only at hi
                        obtain ⟨_, h119, rfl⟩ := H 14 ⟨.data, by simp, rfl⟩ _ rfl
                        replace h119 := h119 _ rfl
                        obtain ⟨_, h112, rfl⟩ := H 7 ⟨.guard, by simp, rfl⟩ _ rfl
                        replace h112 := h112 _ rfl
                        have HI := Lib.hid hi
                        clear H F hi hL
                        obtain ⟨k0, k1, k2, k3, k4, k5⟩ := HCE.out wx ((HMR.out.under HI.out).below)
                        go_wp2_with fail
                        exact hK _ _ (Below.refl _ _) HI.out rfl
                      · intro L a wx Q' hL hi H F hK
                        try dsimp only at hi
                        obtain ⟨_, h116, rfl⟩ := H 11 ⟨.data, by simp, rfl⟩ _ rfl
                        replace h116 := h116 _ rfl
                        obtain ⟨_, h120, rfl⟩ := H 15 ⟨.data, by simp, rfl⟩ _ rfl
                        replace h120 := h120 _ rfl
                        obtain ⟨_, h112, rfl⟩ := H 7 ⟨.guard, by simp, rfl⟩ _ rfl
                        replace h112 := h112 _ rfl
                        have HI := Lib.hid hi
                        clear H F hi hL
                        go_wp2_with (go_at_call 24; go_must (refine (same_any yp y _).mono ?_; rintro e w2 ⟨he, hb1⟩; rw [← HRR.out] at he; subst he))
                        exact hK _ _ hb1 (HI.out.trans (hb1.mono HI.out.size)) rfl
                      · intro L a wx Q' hL hi H F hK
                        try dsimp only at hi
                        obtain ⟨_, h112, rfl⟩ := H 7 ⟨.data, by simp, rfl⟩ _ rfl
                        replace h112 := h112 _ rfl
                        obtain ⟨_, h121, rfl⟩ := H 16 ⟨.data, by simp, rfl⟩ _ rfl
                        replace h121 := h121 _ rfl
                        obtain ⟨_, h107, rfl⟩ := H 2 ⟨.guard, by simp, rfl⟩ _ rfl
                        replace h107 := h107 _ rfl
                        have HI := Lib.hid hi
                        clear H F hi hL
                        go_wp2_with fail
                        exact hK _ _ (Below.refl _ _) HI.out rfl
                      · intro L a wx Q' hL hi H F hK
                        try dsimp only at hi
                        obtain ⟨_, h122, rfl⟩ := H 17 ⟨.data, by simp, rfl⟩ _ rfl
                        replace h122 := h122 _ rfl
                        obtain ⟨_, h107, rfl⟩ := H 2 ⟨.guard, by simp, rfl⟩ _ rfl
                        replace h107 := h107 _ rfl
                        have HI := Lib.hid hi
                        clear H F hi hL
                        go_wp2_with fail
                        exact hK _ _ (Below.refl _ _) HI.out rfl
                      · intro a wx hl L hi hL Q' hK
                        try dsimp only at hi
                        have HB := Lib.hid hi
                        clear hi hL
                        obtain ⟨_, rfl, _, rfl, _, rfl, _, rfl, _, rfl, _, rfl, _, rfl, _, rfl, _, rfl, _, rfl, _, rfl, _, rfl, _, rfl, _, rfl, _, rfl, _, rfl, _, rfl, _, rfl, _, rfl, rfl⟩ := hl
                        simp only [List.setIfInBounds_toArray, List.set_cons_zero, List.set_cons_succ]
                        skip
                        have HMQ0 := Lib.hid (HMR.out.under HB.out)
                        have HDQ0 := Lib.hid (Whole.under HB.out HDR.out HDR.out.lt)
                        have HGQ0 := Lib.hid (Whole.under HB.out HGR.out HGR.out.lt)
                        clear HB
                        cases r with
                        | false =>
                          have hdn := Lib.hid (down HNO.out hpm (fun hh => by
                            obtain ⟨_, o', ho', hk'⟩ := hh
                            rw [HYP.out] at ho'
                            cases ho'
                            have := of_decide_eq_false HRR.out.symm
                            exact this hk'))
                          go_wp2_with fail
                          go_roundw
                          case rel =>
                            (repeat apply Exists.intro)
                            first | exact ⟨HMQ0.out, HDQ0.out, HGQ0.out, hdn.out⟩ | exact ⟨⟨HMQ0.out, HDQ0.out, HGQ0.out, hdn.out⟩, rfl⟩
                          case measure => simp [intOf] <;> omega
                        | true =>
                          have HDP := Lib.hid (show (.returned (.agg #[.int .u32 yp.allowed, .int .u32 0, .int .u32 0, .bool false, .int .i64 yp.seq]) : Ending) = .returned (.agg #[.int .u32 d.allowed, .int .u32 d.auditAllow, .int .u32 d.auditDeny, .bool d.permissive, .int .i64 d.seq]) from by
                            obtain ⟨n', o', h1, h2, h3, h4, h5⟩ := HEX.out
                            have hhit : Hit l bt p y.key := ⟨HBP.out, yp, HYP.out, of_decide_eq_true HRR.out.symm⟩
                            have e : n' = p := by
                              rcases Nat.lt_trichotomy n' p with h | h | h
                              · exact absurd hhit (h5 p h (by omega))
                              · exact h
                              · exact absurd h2 (HNO.out n' h (by omega))
                            subst e
                            rw [HYP.out] at h3
                            cases h3
                            rw [h4]
                            rfl)
                          obtain ⟨wq, hwq⟩ : ∃ wq, wq = wx := ⟨_, rfl⟩
                          rw [← hwq] at HMQ0 HDQ0 HGQ0 ⊢
                          clear hwq
                          have HMQ := Lib.hid HMQ0.out
                          have HGQ := Lib.hid HGQ0.out
                          have HDQ := Lib.hid HDQ0.out
                          clear HMQ0 HGQ0 HDQ0
                          go_wp2_with fail
                          refine wp_region_last (fun w w' => Below w.heap.size w w') [some 127, some 128, some 129, some 130, some 131, some 132, some 133, some 134, some 135, some 136, some 137, some 138, some 139] [isV (.bool true), isV (.bool true), isV (.int .i64 (p : Nat)), isV (.bool false), isV (.bool false), isV (.agg #[.int .u32 d.allowed, .int .u32 d.auditAllow, .int .u32 d.auditDeny, .bool d.permissive, .int .i64 d.seq]), isV (.slice (some ⟨b, off, none⟩) l.length c), isV (.int .i64 (p : Nat)), isV (.pointer (some ⟨b, off + p * 6, none⟩)), isV (.agg #[.int .u8 yp.kind, .int .i64 yp.src, .int .i64 yp.tgt, .int .i64 yp.cls, .int .u32 yp.allowed, .int .i64 yp.seq]), isV (.agg #[.int .u32 d.allowed, .int .u32 d.auditAllow, .int .u32 d.auditDeny, .bool d.permissive, .int .i64 d.seq]), isV (.bool false), isV (.bool false)] (fun _ w' => Below wq.heap.size wq w') 13 (by kernel_rfl) (by kernel_rfl) (by kernel_rfl) rfl (by decide) rfl rfl ((Below.refl _ _).drew) ⟨lasts_is _, lasts_is _, lasts_is _, lasts_is _, lasts_is _, lasts_is _, lasts_is _, lasts_is _, lasts_is _, lasts_is _, lasts_is _, lasts_is _, lasts_is _, trivial⟩ ⟨(fun _ => lastsR_is _), (fun _ => lastsR_is _), (fun _ => lastsR_is _), (fun _ => lastsR_is _), (fun _ => lastsR_is _), (fun _ => lastsR_is _), (fun _ => lastsR_is _), (fun _ => lastsR_is _), (fun _ => lastsR_is _), (fun _ => lastsR_is _), (fun _ => lastsR_is _), (fun _ => lastsR_is _), (fun _ => lastsR_is _), trivial⟩ ⟨?_, ?_, ?_, ?_, ?_, ?_, ?_, ?_, ?_, ?_, ?_, ?_, ?_, ?_⟩
                          · intro L a wx Q' hL hi H F hK
                            try dsimp only at hi
                            have h9 : a.tmps[9]? = some (.bool true) := F 9 rfl
                            have HI := Lib.hid hi
                            clear H F hi hL
                            go_wp2_with fail
                            exact hK _ _ (Below.refl _ _) HI.out rfl
                          · intro L a wx Q' hL hi H F hK
                            try dsimp only at hi
                            obtain ⟨_, h127, rfl⟩ := H 0 ⟨.data, by simp, rfl⟩ _ rfl
                            replace h127 := h127 _ rfl
                            have HI := Lib.hid hi
                            clear H F hi hL
                            go_wp2_with fail
                            exact hK _ _ (Below.refl _ _) HI.out rfl
                          · intro L a wx Q' hL hi H F hK
                            try dsimp only at hi
                            obtain ⟨_, h128, rfl⟩ := H 1 ⟨.guard, by simp, rfl⟩ _ rfl
                            replace h128 := h128 _ rfl
                            have h10 : a.tmps[10]? = some (.int .i64 (p : Nat)) := F 10 rfl
                            have HI := Lib.hid hi
                            clear H F hi hL
                            go_wp2_with fail
                            exact hK _ _ (Below.refl _ _) HI.out rfl
                          · intro L a wx Q' hL hi H F hK
                            try dsimp only at hi
                            obtain ⟨_, h129, rfl⟩ := H 2 ⟨.data, by simp, rfl⟩ _ rfl
                            replace h129 := h129 _ rfl
                            obtain ⟨_, h128, rfl⟩ := H 1 ⟨.guard, by simp, rfl⟩ _ rfl
                            replace h128 := h128 _ rfl
                            have HI := Lib.hid hi
                            clear H F hi hL
                            go_wp2_with fail
                            exact hK _ _ (Below.refl _ _) HI.out rfl
                          · intro L a wx Q' hL hi H F hK
                            try dsimp only at hi
                            obtain ⟨_, h130, rfl⟩ := H 3 ⟨.data, by simp, rfl⟩ _ rfl
                            replace h130 := h130 _ rfl
                            obtain ⟨_, h128, rfl⟩ := H 1 ⟨.guard, by simp, rfl⟩ _ rfl
                            replace h128 := h128 _ rfl
                            have HI := Lib.hid hi
                            clear H F hi hL
                            go_wp2_with fail
                            exact hK _ _ (Below.refl _ _) HI.out rfl
                          · intro L a wx Q' hL hi H F hK
                            try dsimp only at hi
                            obtain ⟨_, h131, rfl⟩ := H 4 ⟨.guard, by simp, rfl⟩ _ rfl
                            replace h131 := h131 _ rfl
                            have h8 : a.tmps[8]? = some (.pointer (some ⟨g, 0, none⟩)) := F 8 rfl
                            have HI := Lib.hid hi
                            clear H F hi hL
                            obtain ⟨e0, e1, e2, e3, e4⟩ := five46 (Whole.under HI.out HGQ.out HGQ.out.lt)
                            go_wp2_with fail
                            exact hK _ _ (Below.refl _ _) HI.out rfl
                          · intro L a wx Q' hL hi H F hK
                            try dsimp only at hi
                            obtain ⟨_, h131, rfl⟩ := H 4 ⟨.guard, by simp, rfl⟩ _ rfl
                            replace h131 := h131 _ rfl
                            have h1 : a.tmps[1]? = some (.slice (some ⟨b, off, none⟩) l.length c) := F 1 rfl
                            have HI := Lib.hid hi
                            clear H F hi hL
                            go_wp2_with fail
                            exact hK _ _ (Below.refl _ _) HI.out rfl
                          · intro L a wx Q' hL hi H F hK
                            try dsimp only at hi
                            obtain ⟨_, h131, rfl⟩ := H 4 ⟨.guard, by simp, rfl⟩ _ rfl
                            replace h131 := h131 _ rfl
                            have h10 : a.tmps[10]? = some (.int .i64 (p : Nat)) := F 10 rfl
                            have HI := Lib.hid hi
                            clear H F hi hL
                            go_wp2_with fail
                            exact hK _ _ (Below.refl _ _) HI.out rfl
                          · intro L a wx Q' hL hi H F hK
                            try dsimp only at hi
                            obtain ⟨_, h133, rfl⟩ := H 6 ⟨.data, by simp, rfl⟩ _ rfl
                            replace h133 := h133 _ rfl
                            obtain ⟨_, h134, rfl⟩ := H 7 ⟨.data, by simp, rfl⟩ _ rfl
                            replace h134 := h134 _ rfl
                            obtain ⟨_, h131, rfl⟩ := H 4 ⟨.guard, by simp, rfl⟩ _ rfl
                            replace h131 := h131 _ rfl
                            have HI := Lib.hid hi
                            clear H F hi hL
                            go_wp2_with fail
                            exact hK _ _ (Below.refl _ _) HI.out rfl
                          · intro L a wx Q' hL hi H F hK
                            try dsimp only at hi
                            obtain ⟨_, h135, rfl⟩ := H 8 ⟨.data, by simp, rfl⟩ _ rfl
                            replace h135 := h135 _ rfl
                            obtain ⟨_, h131, rfl⟩ := H 4 ⟨.guard, by simp, rfl⟩ _ rfl
                            replace h131 := h131 _ rfl
                            have HI := Lib.hid hi
                            clear H F hi hL
                            obtain ⟨k0, k1, k2, k3, k4, k5⟩ := HCP.out wx ((HMQ.out.under HI.out).below)
                            go_wp2_with fail
                            exact hK _ _ (Below.refl _ _) HI.out rfl
                          · intro L a wx Q' hL hi H F hK
                            try dsimp only at hi
                            obtain ⟨_, h136, rfl⟩ := H 9 ⟨.data, by simp, rfl⟩ _ rfl
                            replace h136 := h136 _ rfl
                            obtain ⟨_, h131, rfl⟩ := H 4 ⟨.guard, by simp, rfl⟩ _ rfl
                            replace h131 := h131 _ rfl
                            have HI := Lib.hid hi
                            clear H F hi hL
                            go_wp2_with (go_at_call 23; go_must (refine (decision_any yp _).mono ?_; rintro e w2 ⟨he, hb1⟩; rw [HDP.out] at he; subst he))
                            exact hK _ _ hb1 (HI.out.trans (hb1.mono HI.out.size)) rfl
                          · intro L a wx Q' hL hi H F hK
                            try dsimp only at hi
                            obtain ⟨_, h132, rfl⟩ := H 5 ⟨.data, by simp, rfl⟩ _ rfl
                            replace h132 := h132 _ rfl
                            obtain ⟨_, h137, rfl⟩ := H 10 ⟨.data, by simp, rfl⟩ _ rfl
                            replace h137 := h137 _ rfl
                            obtain ⟨_, h131, rfl⟩ := H 4 ⟨.guard, by simp, rfl⟩ _ rfl
                            replace h131 := h131 _ rfl
                            have HI := Lib.hid hi
                            clear H F hi hL
                            have q := eq_dec d.allowed d.auditAllow d.auditDeny d.seq d.permissive
                            go_wp2_with fail
                            exact hK _ _ (Below.refl _ _) HI.out rfl
                          · intro L a wx Q' hL hi H F hK
                            try dsimp only at hi
                            obtain ⟨_, h131, rfl⟩ := H 4 ⟨.data, by simp, rfl⟩ _ rfl
                            replace h131 := h131 _ rfl
                            obtain ⟨_, h138, rfl⟩ := H 11 ⟨.data, by simp, rfl⟩ _ rfl
                            replace h138 := h138 _ rfl
                            obtain ⟨_, h128, rfl⟩ := H 1 ⟨.guard, by simp, rfl⟩ _ rfl
                            replace h128 := h128 _ rfl
                            have HI := Lib.hid hi
                            clear H F hi hL
                            go_wp2_with fail
                            exact hK _ _ (Below.refl _ _) HI.out rfl
                          · intro a wx hl L hi hL Q' hK
                            try dsimp only at hi
                            have HB := Lib.hid hi
                            clear hi hL
                            obtain ⟨_, rfl, _, rfl, _, rfl, _, rfl, _, rfl, _, rfl, _, rfl, _, rfl, _, rfl, _, rfl, _, rfl, _, rfl, _, rfl, rfl⟩ := hl
                            simp only [List.setIfInBounds_toArray, List.set_cons_zero, List.set_cons_succ]
                            skip
                            go_wp2_with fail
                            go_roundw
                            case rel => exact ⟨m + 1, t, bt, by omega, by go_num, HMQ.out.under HB.out, Whole.under HB.out HDQ.out HDQ.out.lt, HLEN2.out, HCT0.out.mono (by omega), HLT.out⟩
                            case measure => simp [intOf] <;> omega
      · go_wp2_with fail
        refine (play_m (fun i => i = w1.heap.size) _ w w.heap.size 0 _ cb s y HM.out rfl HC6.out HWY.out).mono ?_
        rintro e w7 ⟨rfl, hm7, ha7⟩
        obtain ⟨t, ht⟩ : ∃ t, t = s.play y := ⟨_, rfl⟩
        obtain ⟨bt, hbt⟩ : ∃ bt, bt = bs := ⟨_, rfl⟩
        have HMT := Lib.hid (show Many (fun i => i = w1.heap.size) w.heap.size w w7 [(cb, t)] from by rw [ht]; exact hm7)
        have HDT := Lib.hid (show Whole w7 w1.heap.size 4 (flags bt) from by rw [hbt]; exact ha7.whole HDN.out rfl)
        have HLEN2 := Lib.hid (show bt.length = l.length by rw [hbt]; exact HLEN.out)
        have HLT := Lib.hid (show LastOk l bt (m + 1) t from by rw [hbt, ht]; exact last_play HLO.out hkk)
        have HCT0 := Lib.hid (show t.Cnt (m + 1) from by rw [ht]; exact cnt_play HC.out _)
        have HCT := Lib.hid (HCT0.out.mono (show _ ≤ (1000000 : Int) by omega))
        have HSELF := Lib.hid (show bt[m]? = some true → t.has y.key = true from fun h => absurd h (by rw [hbt]; exact HLO.out.rest m (Nat.le_refl _)))
        clear ht hbt hm7 ha7 HLO HC HC6 HDN HM k0 k1 k2 k3 k4 k5
        go_wp2_with fail
        obtain ⟨d, hd⟩ : ∃ d, d = t.dec y.key := ⟨_, rfl⟩
        obtain ⟨o, ho⟩ : ∃ o, o = t.has y.key := ⟨_, rfl⟩
        obtain ⟨bi, hbi⟩ : ∃ bi, bt[m]? = some bi := ⟨_, List.getElem?_eq_getElem (by have := HLEN2.out; omega)⟩
        have HD := Lib.hid hd
        have HO := Lib.hid ho
        have HBI := Lib.hid hbi
        clear hd ho hbi
        refine wp_region_goods [some 76, some 77, some 78, some 79, some 80, some 81, some 82, some 83, some 84, some 85, some 86, some 87, some 88, some 89, some 90, some 91, some 92, some 93, some 75, some 94, some 95, some 8, none] [isW (.pointer (some ⟨cb, 0, none⟩)), fun L u w' => ∃ kb, u = .pointer (some ⟨kb, 0, none⟩) ∧ (L 17 = false → Many (fun i => i = w1.heap.size) w.heap.size w w' [(cb, t), (kb, t)]), isW (.slice (some ⟨b, off, none⟩) l.length c), isW (.int .i64 (m : Nat)), isW (.pointer (some ⟨b, off + m * 6, none⟩)), isW (.pointer (some ⟨b, off + m * 6 + 1, none⟩)), isW (.int .i64 y.src), isW (.slice (some ⟨b, off, none⟩) l.length c), isW (.int .i64 (m : Nat)), isW (.pointer (some ⟨b, off + m * 6, none⟩)), isW (.pointer (some ⟨b, off + m * 6 + 2, none⟩)), isW (.int .i64 y.tgt), isW (.slice (some ⟨b, off, none⟩) l.length c), isW (.int .i64 (m : Nat)), isW (.pointer (some ⟨b, off + m * 6, none⟩)), isW (.pointer (some ⟨b, off + m * 6 + 3, none⟩)), isW (.int .i64 y.cls), isW (.tuple #[.agg #[.int .u32 d.allowed, .int .u32 d.auditAllow, .int .u32 d.auditDeny, .bool d.permissive, .int .i64 d.seq], .bool o]), isW (.tuple #[.agg #[.int .u32 d.allowed, .int .u32 d.auditAllow, .int .u32 d.auditDeny, .bool d.permissive, .int .i64 d.seq], .bool o]), isW (.agg #[.int .u32 d.allowed, .int .u32 d.auditAllow, .int .u32 d.auditDeny, .bool d.permissive, .int .i64 d.seq]), isW (.bool o), fun L u w' => ∃ g cs, u = .pointer (some ⟨g, 0, none⟩) ∧ w.heap.size ≤ g ∧ Whole w' g 46 cs ∧ cs.size = 5 ∧ L 21 = true ∧ (L 22 = true → cs = #[.int .u32 d.allowed, .int .u32 d.auditAllow, .int .u32 d.auditDeny, .bool d.permissive, .int .i64 d.seq]), fun _ _ _ => True] (fun L w' => Many (fun i => i = w1.heap.size) w.heap.size w w' [(cb, t)] ∧ Whole w' w1.heap.size 4 (flags bt) ∧ (L 22 = true → L 21 = true)) [17, 22] (by kernel_rfl) (by kernel_rfl) (by kernel_rfl) rfl (by decide) rfl rfl (⟨HMT.out.under ((Below.refl _ _).drew), HDT.out, fun h => by cases h⟩) ⟨lastsW_is _, (fun L i v w' w'' hi ⟨kb, h1, h2⟩ hb => ⟨kb, h1, fun h => (h2 (Bool.or_eq_false_iff.1 h).2).under hb⟩), lastsW_is _, lastsW_is _, lastsW_is _, lastsW_is _, lastsW_is _, lastsW_is _, lastsW_is _, lastsW_is _, lastsW_is _, lastsW_is _, lastsW_is _, lastsW_is _, lastsW_is _, lastsW_is _, lastsW_is _, lastsW_is _, lastsW_is _, lastsW_is _, lastsW_is _, (fun L i v w' w'' hi ⟨g, cs, h1, h2, h3, h4, h6, h5⟩ hb => ⟨g, cs, h1, h2, Whole.under hb h3 h3.lt, h4, by simp [upd, h6], fun h => h5 (by rcases Bool.or_eq_true_iff.1 h with e | e; (have e' : (22 : Nat) = i := by simpa using e); subst e'; simp at hi; exact e)⟩), (fun _ _ _ _ _ _ _ _ => trivial), trivial⟩ ⟨?_, ?_, ?_, ?_, ?_, ?_, ?_, ?_, ?_, ?_, ?_, ?_, ?_, ?_, ?_, ?_, ?_, ?_, ?_, ?_, ?_, ?_, ?_, ?_⟩
        · intro L a wx Q' hL hi H F hK
          try dsimp only at hi
          have h5 : a.tmps[5]? = some (.pointer (some ⟨cb, 0, none⟩)) := F 5 rfl
          have HI := Lib.hid hi
          clear H F hi hL
          go_wp2_with fail
          exact hK _ _ (Below.refl _ _) HI.out rfl
        · intro L a wx Q' hL hi H F hK
          try dsimp only at hi
          obtain ⟨_, h76, rfl⟩ := H 0 ⟨.data, by simp, rfl⟩ _ rfl
          replace h76 := h76 _ rfl
          have HI := Lib.hid hi
          clear H F hi hL
          go_wp2_with (go_at_call 19; go_must (refine (copy_b 0 HI.out.1 rfl).mono ?_; rintro e w2 ⟨kb, rfl, hm2, hb2⟩; have HR := Lib.hid (And.intro hm2 hb2); clear hm2 hb2))
          exact hK _ _ HR.out.2 ⟨HI.out.1.under HR.out.2, Whole.under HR.out.2 HI.out.2.1 HI.out.2.1.lt, HI.out.2.2⟩ ⟨kb, rfl, fun _ => HR.out.1⟩
        · intro L a wx Q' hL hi H F hK
          try dsimp only at hi
          have h1 : a.tmps[1]? = some (.slice (some ⟨b, off, none⟩) l.length c) := F 1 rfl
          have HI := Lib.hid hi
          clear H F hi hL
          go_wp2_with fail
          exact hK _ _ (Below.refl _ _) HI.out rfl
        · intro L a wx Q' hL hi H F hK
          try dsimp only at hi
          have h7 : a.tmps[7]? = some (.int .i64 (m : Nat)) := F 7 rfl
          have HI := Lib.hid hi
          clear H F hi hL
          go_wp2_with fail
          exact hK _ _ (Below.refl _ _) HI.out rfl
        · intro L a wx Q' hL hi H F hK
          try dsimp only at hi
          obtain ⟨_, h78, rfl⟩ := H 2 ⟨.data, by simp, rfl⟩ _ rfl
          replace h78 := h78 _ rfl
          obtain ⟨_, h79, rfl⟩ := H 3 ⟨.data, by simp, rfl⟩ _ rfl
          replace h79 := h79 _ rfl
          have HI := Lib.hid hi
          clear H F hi hL
          go_wp2_with fail
          exact hK _ _ (Below.refl _ _) HI.out rfl
        · intro L a wx Q' hL hi H F hK
          try dsimp only at hi
          obtain ⟨_, h80, rfl⟩ := H 4 ⟨.data, by simp, rfl⟩ _ rfl
          replace h80 := h80 _ rfl
          have HI := Lib.hid hi
          clear H F hi hL
          go_wp2_with fail
          exact hK _ _ (Below.refl _ _) HI.out rfl
        · intro L a wx Q' hL hi H F hK
          try dsimp only at hi
          obtain ⟨_, h81, rfl⟩ := H 5 ⟨.data, by simp, rfl⟩ _ rfl
          replace h81 := h81 _ rfl
          have HI := Lib.hid hi
          clear H F hi hL
          have kq : wx.cell? ⟨b, off + m * 6 + 1, none⟩ = some (.int .i64 y.src) := (HCE.out wx HI.out.1.below).2.1
          go_wp2_with fail
          exact hK _ _ (Below.refl _ _) HI.out rfl
        · intro L a wx Q' hL hi H F hK
          try dsimp only at hi
          have h1 : a.tmps[1]? = some (.slice (some ⟨b, off, none⟩) l.length c) := F 1 rfl
          have HI := Lib.hid hi
          clear H F hi hL
          go_wp2_with fail
          exact hK _ _ (Below.refl _ _) HI.out rfl
        · intro L a wx Q' hL hi H F hK
          try dsimp only at hi
          have h7 : a.tmps[7]? = some (.int .i64 (m : Nat)) := F 7 rfl
          have HI := Lib.hid hi
          clear H F hi hL
          go_wp2_with fail
          exact hK _ _ (Below.refl _ _) HI.out rfl
        · intro L a wx Q' hL hi H F hK
          try dsimp only at hi
          obtain ⟨_, h83, rfl⟩ := H 7 ⟨.data, by simp, rfl⟩ _ rfl
          replace h83 := h83 _ rfl
          obtain ⟨_, h84, rfl⟩ := H 8 ⟨.data, by simp, rfl⟩ _ rfl
          replace h84 := h84 _ rfl
          have HI := Lib.hid hi
          clear H F hi hL
          go_wp2_with fail
          exact hK _ _ (Below.refl _ _) HI.out rfl
        · intro L a wx Q' hL hi H F hK
          try dsimp only at hi
          obtain ⟨_, h85, rfl⟩ := H 9 ⟨.data, by simp, rfl⟩ _ rfl
          replace h85 := h85 _ rfl
          have HI := Lib.hid hi
          clear H F hi hL
          go_wp2_with fail
          exact hK _ _ (Below.refl _ _) HI.out rfl
        · intro L a wx Q' hL hi H F hK
          try dsimp only at hi
          obtain ⟨_, h86, rfl⟩ := H 10 ⟨.data, by simp, rfl⟩ _ rfl
          replace h86 := h86 _ rfl
          have HI := Lib.hid hi
          clear H F hi hL
          have kq : wx.cell? ⟨b, off + m * 6 + 2, none⟩ = some (.int .i64 y.tgt) := (HCE.out wx HI.out.1.below).2.2.1
          go_wp2_with fail
          exact hK _ _ (Below.refl _ _) HI.out rfl
        · intro L a wx Q' hL hi H F hK
          try dsimp only at hi
          have h1 : a.tmps[1]? = some (.slice (some ⟨b, off, none⟩) l.length c) := F 1 rfl
          have HI := Lib.hid hi
          clear H F hi hL
          go_wp2_with fail
          exact hK _ _ (Below.refl _ _) HI.out rfl
        · intro L a wx Q' hL hi H F hK
          try dsimp only at hi
          have h7 : a.tmps[7]? = some (.int .i64 (m : Nat)) := F 7 rfl
          have HI := Lib.hid hi
          clear H F hi hL
          go_wp2_with fail
          exact hK _ _ (Below.refl _ _) HI.out rfl
        · intro L a wx Q' hL hi H F hK
          try dsimp only at hi
          obtain ⟨_, h88, rfl⟩ := H 12 ⟨.data, by simp, rfl⟩ _ rfl
          replace h88 := h88 _ rfl
          obtain ⟨_, h89, rfl⟩ := H 13 ⟨.data, by simp, rfl⟩ _ rfl
          replace h89 := h89 _ rfl
          have HI := Lib.hid hi
          clear H F hi hL
          go_wp2_with fail
          exact hK _ _ (Below.refl _ _) HI.out rfl
        · intro L a wx Q' hL hi H F hK
          try dsimp only at hi
          obtain ⟨_, h90, rfl⟩ := H 14 ⟨.data, by simp, rfl⟩ _ rfl
          replace h90 := h90 _ rfl
          have HI := Lib.hid hi
          clear H F hi hL
          go_wp2_with fail
          exact hK _ _ (Below.refl _ _) HI.out rfl
        · intro L a wx Q' hL hi H F hK
          try dsimp only at hi
          obtain ⟨_, h91, rfl⟩ := H 15 ⟨.data, by simp, rfl⟩ _ rfl
          replace h91 := h91 _ rfl
          have HI := Lib.hid hi
          clear H F hi hL
          have kq : wx.cell? ⟨b, off + m * 6 + 3, none⟩ = some (.int .i64 y.cls) := (HCE.out wx HI.out.1.below).2.2.2.1
          go_wp2_with fail
          exact hK _ _ (Below.refl _ _) HI.out rfl
        · intro L a wx Q' hL hi H F hK
          try dsimp only at hi
          obtain ⟨v77, h77, hv77⟩ := H 1 ⟨.data, by simp, rfl⟩ _ rfl
          replace h77 := h77 _ rfl
          have HV77 := Lib.hid hv77
          clear hv77
          obtain ⟨_, h82, rfl⟩ := H 6 ⟨.data, by simp, rfl⟩ _ rfl
          replace h82 := h82 _ rfl
          obtain ⟨_, h87, rfl⟩ := H 11 ⟨.data, by simp, rfl⟩ _ rfl
          replace h87 := h87 _ rfl
          obtain ⟨_, h92, rfl⟩ := H 16 ⟨.data, by simp, rfl⟩ _ rfl
          replace h92 := h92 _ rfl
          have HI := Lib.hid hi
          clear H F hi
          obtain ⟨kb, rfl, hkb⟩ := HV77.out
          have HKB := Lib.hid (hkb hL)
          clear HV77 hkb hL
          have HID := Lib.hid HI.out.2.1
          go_wp2_with (go_at_call 21; go_must (refine (find_k 1 y.key HKB.out rfl HCT.out HWY.out.key).mono ?_; rintro e w5 ⟨he, hm5, hk5⟩; rw [← HD.out, ← HO.out] at he; subst he; have HR := Lib.hid (And.intro hm5 hk5); clear hm5 hk5))
          exact hK _ _ (show KeepAll _ _ _ _ _ _ _ _ from ⟨(fun _ _ _ _ h => h), (fun _ _ v _ ⟨kb, h1, _⟩ => ⟨kb, h1, fun h => by simp [upd] at h⟩), (fun _ _ _ _ h => h), (fun _ _ _ _ h => h), (fun _ _ _ _ h => h), (fun _ _ _ _ h => h), (fun _ _ _ _ h => h), (fun _ _ _ _ h => h), (fun _ _ _ _ h => h), (fun _ _ _ _ h => h), (fun _ _ _ _ h => h), (fun _ _ _ _ h => h), (fun _ _ _ _ h => h), (fun _ _ _ _ h => h), (fun _ _ _ _ h => h), (fun _ _ _ _ h => h), (fun _ _ _ _ h => h), (fun h => absurd rfl h), (fun _ _ _ _ h => h), (fun _ _ _ _ h => h), (fun _ _ _ _ h => h), (fun _ _ v _ ⟨g, cs, h1, h2, h3, h4, h6, h5⟩ => ⟨g, cs, h1, h2, HR.out.2 g 46 cs (by decide) (by decide) h3, h4, h6, h5⟩), (fun _ _ _ _ _ => trivial), trivial⟩) ⟨HR.out.1.take (fun j x hx => by cases j with | zero => exact hx | succ j => simp at hx), HR.out.2 _ 4 _ (by decide) (by decide) HID.out, HI.out.2.2⟩ rfl
        · intro L a wx Q' hL hi H F hK
          try dsimp only at hi
          obtain ⟨_, h93, rfl⟩ := H 17 ⟨.data, by simp, rfl⟩ _ rfl
          replace h93 := h93 _ rfl
          have HI := Lib.hid hi
          clear H F hi hL
          go_wp2_with fail
          exact hK _ _ (Below.refl _ _) HI.out rfl
        · intro L a wx Q' hL hi H F hK
          try dsimp only at hi
          obtain ⟨_, h75, rfl⟩ := H 18 ⟨.data, by simp, rfl⟩ _ rfl
          replace h75 := h75 _ rfl
          have HI := Lib.hid hi
          clear H F hi hL
          go_wp2_with fail
          exact hK _ _ (Below.refl _ _) HI.out rfl
        · intro L a wx Q' hL hi H F hK
          try dsimp only at hi
          obtain ⟨_, h75, rfl⟩ := H 18 ⟨.data, by simp, rfl⟩ _ rfl
          replace h75 := h75 _ rfl
          have HI := Lib.hid hi
          clear H F hi hL
          go_wp2_with fail
          exact hK _ _ (Below.refl _ _) HI.out rfl
        · intro L a wx Q' hL hi H F hK
          try dsimp only at hi
          have HI := Lib.hid hi
          clear H F hi
          go_wp2_with fail
          have hn := Whole.new wx 46 #[.int .u32 0, .int .u32 0, .int .u32 0, .bool false, .int .i64 0]
          have hb := (Below.refl wx.heap.size wx).alloc (Nat.le_refl _) (.cells #[.int .u32 0, .int .u32 0, .int .u32 0, .bool false, .int .i64 0] 46)
          exact hK _ _ hb ⟨HI.out.1.under hb, Whole.under hb HI.out.2.1 HI.out.2.1.lt, fun _ => by simp [upd]⟩ ⟨wx.heap.size, _, rfl, HI.out.1.base, hn, rfl, by simp [upd], fun h => by rw [upd_ne _ (show (22 : Nat) ≠ 21 by decide)] at h; rw [HI.out.2.2 h] at hL; cases hL⟩
        · intro L a wx Q' hL hi H F hK
          try dsimp only at hi
          obtain ⟨_, h94, rfl⟩ := H 19 ⟨.data, by simp, rfl⟩ _ rfl
          replace h94 := h94 _ rfl
          obtain ⟨v8, h8, hv8⟩ := H 21 ⟨.data, by simp, rfl⟩ _ rfl
          replace h8 := h8 _ rfl
          have HV8 := Lib.hid hv8
          clear hv8
          have HI := Lib.hid hi
          clear H F hi hL
          obtain ⟨g, cs, rfl, hgB, hcs, hsz, hl21, -⟩ := HV8.out
          have HCS := Lib.hid hcs
          have HSZ := Lib.hid hsz
          clear HV8 hcs hsz
          refine wpList_store_blk rfl 46 _ _ rfl g 0 (.agg #[.int .u32 d.allowed, .int .u32 d.auditAllow, .int .u32 d.auditDeny, .bool d.permissive, .int .i64 d.seq]) (by simp [Act.eval, *]) (by simp [Act.eval, *]) 46 _ HCS.out (by rw [HSZ.out]; simp [Value.cells]) size46 rfl ?_
          intro w2 S2 W2
          rw [splice_all _ _ (by rw [HSZ.out]; rfl)] at W2
          exact hK undef w2 (show KeepAll _ _ _ _ _ _ _ _ from ⟨(fun _ _ _ _ h => h), (fun _ _ v _ ⟨kb, h1, h2⟩ => ⟨kb, h1, fun h => (h2 h).sto HCS.out (by decide) (by decide) S2 hgB⟩), (fun _ _ _ _ h => h), (fun _ _ _ _ h => h), (fun _ _ _ _ h => h), (fun _ _ _ _ h => h), (fun _ _ _ _ h => h), (fun _ _ _ _ h => h), (fun _ _ _ _ h => h), (fun _ _ _ _ h => h), (fun _ _ _ _ h => h), (fun _ _ _ _ h => h), (fun _ _ _ _ h => h), (fun _ _ _ _ h => h), (fun _ _ _ _ h => h), (fun _ _ _ _ h => h), (fun _ _ _ _ h => h), (fun _ _ _ _ h => h), (fun _ _ _ _ h => h), (fun _ _ _ _ h => h), (fun _ _ _ _ h => h), (fun _ _ v hv ⟨g', cs', h1, h2, h3, h4, h6, h5⟩ => ⟨g, _, (Option.some.inj ((hv 8 rfl).symm.trans h8)), hgB, W2, rfl, h6, fun _ => rfl⟩), (fun h => absurd rfl h), trivial⟩) ⟨HI.out.1.sto HCS.out (by decide) (by decide) S2 hgB, S2.whole HI.out.2.1 (fun e => whole_ne HI.out.2.1 HCS.out (by decide) e), fun _ => by rw [upd_ne _ (show (21 : Nat) ≠ 22 by decide)]; exact hl21⟩ trivial
        · intro a wx L hl hi hL Q' hK
          try dsimp only at hi
          have HB := Lib.hid hi
          have HL := Lib.hid hL
          clear hi hL
          obtain ⟨_, rfl, u77, hu77, _, rfl, _, rfl, _, rfl, _, rfl, _, rfl, _, rfl, _, rfl, _, rfl, _, rfl, _, rfl, _, rfl, _, rfl, _, rfl, _, rfl, _, rfl, _, rfl, _, rfl, _, rfl, _, rfl, u8, hu8, un22, hun22, rfl⟩ := hl
          have HU77 := Lib.hid hu77
          clear hu77
          have HU8 := Lib.hid hu8
          clear hu8
          have HUn22 := Lib.hid hun22
          clear hun22
          simp only [List.setIfInBounds_toArray, List.set_cons_zero, List.set_cons_succ]
          skip
          obtain ⟨g, cs, rfl, hgB, hgw, -, -, hgc⟩ := HU8.out
          have HGX := Lib.hid (show Whole wx g 46 #[.int .u32 d.allowed, .int .u32 d.auditAllow, .int .u32 d.auditDeny, .bool d.permissive, .int .i64 d.seq] from by rw [← hgc (HL.out 22 (by decide))]; exact hgw)
          have HMX := Lib.hid HB.out.1
          have HDX := Lib.hid HB.out.2.1
          clear HU8 HU77 HUn22 HB HL hgB hgw hgc
          have kd : wx.cell? ⟨w1.heap.size, m, none⟩ = some (.bool bi) := by rw [HDX.out.cell, flags_at, HBI.out]; rfl
          have hbo : bi = true → o = true := fun h => by rw [HO.out]; exact HSELF.out (by rw [HBI.out, h])
          cases o with
          | false =>
            obtain rfl : bi = false := by cases bi with | false => rfl | true => exact absurd (hbo rfl) (by decide)
            clear hbo
            go_wp2_with fail
            clear kd
            go_loopw [10] (fun i wr => Many (fun i => i = w1.heap.size) w.heap.size w wr [(cb, t)] ∧ Whole wr w1.heap.size 4 (flags bt) ∧ Whole wr g 46 #[.int .u32 d.allowed, .int .u32 d.auditAllow, .int .u32 d.auditDeny, .bool d.permissive, .int .i64 d.seq] ∧ ((i = .int .i64 (-1) ∧ ∀ n', n' ≤ m → ¬ Hit l bt n' y.key) ∨ ∃ p : Nat, p ≤ m ∧ i = .int .i64 p ∧ ∀ n', p < n' → n' ≤ m → ¬ Hit l bt n' y.key)) (fun i _ => (intOf i + 1).toNat)
            case atStart => exact ⟨HMX.out, HDX.out, HGX.out, .inr ⟨m, Nat.le_refl _, rfl, fun n' h1 h2 => by omega⟩⟩
            case round =>
              obtain ⟨hm2, hd2, hg2, hj⟩ := hrel
              have HMR := Lib.hid hm2
              have HDR := Lib.hid hd2
              have HGR := Lib.hid hg2
              clear hm2 hd2 hg2
              rcases hj with ⟨rfl, hno⟩ | ⟨p, hpm, rfl, hno⟩
              · have HNO := Lib.hid hno
                clear hno
                go_wp2_with fail
                go_quiet (fail)
                go_wp2_with fail
                go_quiet (fail)
                go_wp2_with fail
                go_roundw
                case rel => exact ⟨m + 1, t, bt, by omega, by go_num, HMR.out.under (below_drewN (Below.refl _ _) _), HDR.out, HLEN2.out, HCT0.out.mono (by omega), HLT.out⟩
                case measure => simp [intOf] <;> omega
              · have HNO := Lib.hid hno
                clear hno
                obtain ⟨bp, hbp⟩ : ∃ bp, bt[p]? = some bp := ⟨_, List.getElem?_eq_getElem (by have := HLEN2.out; omega)⟩
                obtain ⟨yp, hyp⟩ : ∃ yp, l[p]? = some yp := ⟨_, List.getElem?_eq_getElem (by omega)⟩
                obtain ⟨b', off', hbo', hcp⟩ := H1.out p yp hyp
                cases hbo'
                have HCP := Lib.hid hcp
                have HBP := Lib.hid hbp
                have HYP := Lib.hid hyp
                clear hbp hyp hcp
                have hz : ¬ ((p : Int) < 0) := by omega
                cases bp with
                | false =>
                  have hdn := Lib.hid (down HNO.out hpm (fun hh => by have := hh.1; rw [HBP.out] at this; cases this))
                  have kd : wr.cell? ⟨w1.heap.size, p, none⟩ = some (.bool false) := by rw [HDR.out.cell, flags_at, HBP.out]; rfl
                  go_wp2_with fail
                  go_quiet (fail)
                  go_wp2_with fail
                  go_roundw
                  case rel =>
                    (repeat apply Exists.intro)
                    first | exact ⟨HMR.out.under (below_drewN (Below.refl _ _) _), HDR.out, HGR.out, hdn.out⟩ | exact ⟨⟨HMR.out.under (below_drewN (Below.refl _ _) _), HDR.out, HGR.out, hdn.out⟩, rfl⟩
                  case measure => simp [intOf] <;> omega
                | true =>
                  obtain ⟨r, hr⟩ : ∃ r, r = decide (yp.key = y.key) := ⟨_, rfl⟩
                  have HRR := Lib.hid hr
                  clear hr
                  go_wp2_with fail
                  refine wp_region_last (fun w w' => Below w.heap.size w w') [some 105, some 106, some 107, some 108, some 109, some 110, some 111, some 112, some 113, some 114, some 115, some 116, some 117, some 118, some 119, some 120, some 121, some 122, some 123] [isV (.int .i64 (p : Nat)), isV (.bool true), isV (.bool true), isV (.slice (some ⟨w1.heap.size, 0, none⟩) l.length l.length), isV (.int .i64 (p : Nat)), isV (.pointer (some ⟨w1.heap.size, p, none⟩)), isV (.bool true), isV (.bool true), isV (.slice (some ⟨b, off, none⟩) l.length c), isV (.int .i64 (p : Nat)), isV (.pointer (some ⟨b, off + p * 6, none⟩)), isV (.agg #[.int .u8 yp.kind, .int .i64 yp.src, .int .i64 yp.tgt, .int .i64 yp.cls, .int .u32 yp.allowed, .int .i64 yp.seq]), isV (.slice (some ⟨b, off, none⟩) l.length c), isV (.int .i64 (m : Nat)), isV (.pointer (some ⟨b, off + m * 6, none⟩)), isV (.agg #[.int .u8 y.kind, .int .i64 y.src, .int .i64 y.tgt, .int .i64 y.cls, .int .u32 y.allowed, .int .i64 y.seq]), isV (.bool r), isV (.bool r), isV (.bool (!r))] (fun _ w' => Below wr.heap.size wr w') 19 (by kernel_rfl) (by kernel_rfl) (by kernel_rfl) rfl (by decide) rfl rfl ((Below.refl _ _).drew) ⟨lasts_is _, lasts_is _, lasts_is _, lasts_is _, lasts_is _, lasts_is _, lasts_is _, lasts_is _, lasts_is _, lasts_is _, lasts_is _, lasts_is _, lasts_is _, lasts_is _, lasts_is _, lasts_is _, lasts_is _, lasts_is _, lasts_is _, trivial⟩ ⟨(fun _ => lastsR_is _), (fun _ => lastsR_is _), (fun _ => lastsR_is _), (fun _ => lastsR_is _), (fun _ => lastsR_is _), (fun _ => lastsR_is _), (fun _ => lastsR_is _), (fun _ => lastsR_is _), (fun _ => lastsR_is _), (fun _ => lastsR_is _), (fun _ => lastsR_is _), (fun _ => lastsR_is _), (fun _ => lastsR_is _), (fun _ => lastsR_is _), (fun _ => lastsR_is _), (fun _ => lastsR_is _), (fun _ => lastsR_is _), (fun _ => lastsR_is _), (fun _ => lastsR_is _), trivial⟩ ⟨?_, ?_, ?_, ?_, ?_, ?_, ?_, ?_, ?_, ?_, ?_, ?_, ?_, ?_, ?_, ?_, ?_, ?_, ?_, ?_⟩
                  · intro L a wx Q' hL hi H F hK
                    try dsimp only at hi
                    have h10 : a.tmps[10]? = some (.int .i64 (p : Nat)) := F 10 rfl
                    have HI := Lib.hid hi
                    clear H F hi hL
                    go_wp2_with fail
                    exact hK _ _ (Below.refl _ _) HI.out rfl
                  · intro L a wx Q' hL hi H F hK
                    try dsimp only at hi
                    obtain ⟨_, h105, rfl⟩ := H 0 ⟨.data, by simp, rfl⟩ _ rfl
                    replace h105 := h105 _ rfl
                    have HI := Lib.hid hi
                    clear H F hi hL
                    go_wp2_with fail
                    exact hK _ _ (Below.refl _ _) HI.out rfl
                  · intro L a wx Q' hL hi H F hK
                    try dsimp only at hi
                    obtain ⟨_, h106, rfl⟩ := H 1 ⟨.data, by simp, rfl⟩ _ rfl
                    replace h106 := h106 _ rfl
                    have HI := Lib.hid hi
                    clear H F hi hL
                    go_wp2_with fail
                    exact hK _ _ (Below.refl _ _) HI.out rfl
                  · intro L a wx Q' hL hi H F hK
                    try dsimp only at hi
                    obtain ⟨_, h107, rfl⟩ := H 2 ⟨.guard, by simp, rfl⟩ _ rfl
                    replace h107 := h107 _ rfl
                    have h6 : a.tmps[6]? = some (.slice (some ⟨w1.heap.size, 0, none⟩) l.length l.length) := F 6 rfl
                    have HI := Lib.hid hi
                    clear H F hi hL
                    go_wp2_with fail
                    exact hK _ _ (Below.refl _ _) HI.out rfl
                  · intro L a wx Q' hL hi H F hK
                    try dsimp only at hi
                    obtain ⟨_, h107, rfl⟩ := H 2 ⟨.guard, by simp, rfl⟩ _ rfl
                    replace h107 := h107 _ rfl
                    have h10 : a.tmps[10]? = some (.int .i64 (p : Nat)) := F 10 rfl
                    have HI := Lib.hid hi
                    clear H F hi hL
                    go_wp2_with fail
                    exact hK _ _ (Below.refl _ _) HI.out rfl
                  · intro L a wx Q' hL hi H F hK
                    try dsimp only at hi
                    obtain ⟨_, h108, rfl⟩ := H 3 ⟨.data, by simp, rfl⟩ _ rfl
                    replace h108 := h108 _ rfl
                    obtain ⟨_, h109, rfl⟩ := H 4 ⟨.data, by simp, rfl⟩ _ rfl
                    replace h109 := h109 _ rfl
                    obtain ⟨_, h107, rfl⟩ := H 2 ⟨.guard, by simp, rfl⟩ _ rfl
                    replace h107 := h107 _ rfl
                    have HI := Lib.hid hi
                    clear H F hi hL
                    go_wp2_with fail
                    exact hK _ _ (Below.refl _ _) HI.out rfl
                  · intro L a wx Q' hL hi H F hK
                    try dsimp only at hi
                    obtain ⟨_, h110, rfl⟩ := H 5 ⟨.data, by simp, rfl⟩ _ rfl
                    replace h110 := h110 _ rfl
                    obtain ⟨_, h107, rfl⟩ := H 2 ⟨.guard, by simp, rfl⟩ _ rfl
                    replace h107 := h107 _ rfl
                    have HI := Lib.hid hi
                    clear H F hi hL
                    have kq : wx.cell? ⟨w1.heap.size, p, none⟩ = some (.bool true) := by rw [(Whole.under HI.out HDR.out HDR.out.lt).cell, flags_at, HBP.out]; rfl
                    go_wp2_with fail
                    exact hK _ _ (Below.refl _ _) HI.out rfl
                  · intro L a wx Q' hL hi H F hK
                    try dsimp only at hi
                    obtain ⟨_, h111, rfl⟩ := H 6 ⟨.data, by simp, rfl⟩ _ rfl
                    replace h111 := h111 _ rfl
                    obtain ⟨_, h107, rfl⟩ := H 2 ⟨.guard, by simp, rfl⟩ _ rfl
                    replace h107 := h107 _ rfl
                    have HI := Lib.hid hi
                    clear H F hi hL
                    go_wp2_with fail
                    exact hK _ _ (Below.refl _ _) HI.out rfl
                  · intro L a wx Q' hL hi H F hK
                    try dsimp only at hi
                    obtain ⟨_, h112, rfl⟩ := H 7 ⟨.guard, by simp, rfl⟩ _ rfl
                    replace h112 := h112 _ rfl
                    have h1 : a.tmps[1]? = some (.slice (some ⟨b, off, none⟩) l.length c) := F 1 rfl
                    have HI := Lib.hid hi
                    clear H F hi hL
                    go_wp2_with fail
                    exact hK _ _ (Below.refl _ _) HI.out rfl
                  · intro L a wx Q' hL hi H F hK
                    try dsimp only at hi
                    obtain ⟨_, h112, rfl⟩ := H 7 ⟨.guard, by simp, rfl⟩ _ rfl
                    replace h112 := h112 _ rfl
                    have h10 : a.tmps[10]? = some (.int .i64 (p : Nat)) := F 10 rfl
                    have HI := Lib.hid hi
                    clear H F hi hL
                    go_wp2_with fail
                    exact hK _ _ (Below.refl _ _) HI.out rfl
                  · intro L a wx Q' hL hi H F hK
                    try dsimp only at hi
                    obtain ⟨_, h113, rfl⟩ := H 8 ⟨.data, by simp, rfl⟩ _ rfl
                    replace h113 := h113 _ rfl
                    obtain ⟨_, h114, rfl⟩ := H 9 ⟨.data, by simp, rfl⟩ _ rfl
                    replace h114 := h114 _ rfl
                    obtain ⟨_, h112, rfl⟩ := H 7 ⟨.guard, by simp, rfl⟩ _ rfl
                    replace h112 := h112 _ rfl
                    have HI := Lib.hid hi
                    clear H F hi hL
                    go_wp2_with fail
                    exact hK _ _ (Below.refl _ _) HI.out rfl
                  · intro L a wx Q' hL hi H F hK
                    try dsimp only at hi
                    obtain ⟨_, h115, rfl⟩ := H 10 ⟨.data, by simp, rfl⟩ _ rfl
                    replace h115 := h115 _ rfl
                    obtain ⟨_, h112, rfl⟩ := H 7 ⟨.guard, by simp, rfl⟩ _ rfl
                    replace h112 := h112 _ rfl
                    have HI := Lib.hid hi
                    clear H F hi hL
                    obtain ⟨k0, k1, k2, k3, k4, k5⟩ := HCP.out wx ((HMR.out.under HI.out).below)
                    go_wp2_with fail
                    exact hK _ _ (Below.refl _ _) HI.out rfl
                  · intro L a wx Q' hL hi H F hK
                    try dsimp only at hi
                    obtain ⟨_, h112, rfl⟩ := H 7 ⟨.guard, by simp, rfl⟩ _ rfl
                    replace h112 := h112 _ rfl
                    have h1 : a.tmps[1]? = some (.slice (some ⟨b, off, none⟩) l.length c) := F 1 rfl
                    have HI := Lib.hid hi
                    clear H F hi hL
                    go_wp2_with fail
                    exact hK _ _ (Below.refl _ _) HI.out rfl
                  · intro L a wx Q' hL hi H F hK
                    try dsimp only at hi
                    obtain ⟨_, h112, rfl⟩ := H 7 ⟨.guard, by simp, rfl⟩ _ rfl
                    replace h112 := h112 _ rfl
                    have h7 : a.tmps[7]? = some (.int .i64 (m : Nat)) := F 7 rfl
                    have HI := Lib.hid hi
                    clear H F hi hL
                    go_wp2_with fail
                    exact hK _ _ (Below.refl _ _) HI.out rfl
                  · intro L a wx Q' hL hi H F hK
                    try dsimp only at hi
                    obtain ⟨_, h117, rfl⟩ := H 12 ⟨.data, by simp, rfl⟩ _ rfl
                    replace h117 := h117 _ rfl
                    obtain ⟨_, h118, rfl⟩ := H 13 ⟨.data, by simp, rfl⟩ _ rfl
                    replace h118 := h118 _ rfl
                    obtain ⟨_, h112, rfl⟩ := H 7 ⟨.guard, by simp, rfl⟩ _ rfl
                    replace h112 := h112 _ rfl
                    have HI := Lib.hid hi
                    clear H F hi hL
                    go_wp2_with fail
                    exact hK _ _ (Below.refl _ _) HI.out rfl
                  · intro L a wx Q' hL hi H F hK
                    try dsimp only at hi
                    obtain ⟨_, h119, rfl⟩ := H 14 ⟨.data, by simp, rfl⟩ _ rfl
                    replace h119 := h119 _ rfl
                    obtain ⟨_, h112, rfl⟩ := H 7 ⟨.guard, by simp, rfl⟩ _ rfl
                    replace h112 := h112 _ rfl
                    have HI := Lib.hid hi
                    clear H F hi hL
                    obtain ⟨k0, k1, k2, k3, k4, k5⟩ := HCE.out wx ((HMR.out.under HI.out).below)
                    go_wp2_with fail
                    exact hK _ _ (Below.refl _ _) HI.out rfl
                  · intro L a wx Q' hL hi H F hK
                    try dsimp only at hi
                    obtain ⟨_, h116, rfl⟩ := H 11 ⟨.data, by simp, rfl⟩ _ rfl
                    replace h116 := h116 _ rfl
                    obtain ⟨_, h120, rfl⟩ := H 15 ⟨.data, by simp, rfl⟩ _ rfl
                    replace h120 := h120 _ rfl
                    obtain ⟨_, h112, rfl⟩ := H 7 ⟨.guard, by simp, rfl⟩ _ rfl
                    replace h112 := h112 _ rfl
                    have HI := Lib.hid hi
                    clear H F hi hL
                    go_wp2_with (go_at_call 24; go_must (refine (same_any yp y _).mono ?_; rintro e w2 ⟨he, hb1⟩; rw [← HRR.out] at he; subst he))
                    exact hK _ _ hb1 (HI.out.trans (hb1.mono HI.out.size)) rfl
                  · intro L a wx Q' hL hi H F hK
                    try dsimp only at hi
                    obtain ⟨_, h112, rfl⟩ := H 7 ⟨.data, by simp, rfl⟩ _ rfl
                    replace h112 := h112 _ rfl
                    obtain ⟨_, h121, rfl⟩ := H 16 ⟨.data, by simp, rfl⟩ _ rfl
                    replace h121 := h121 _ rfl
                    obtain ⟨_, h107, rfl⟩ := H 2 ⟨.guard, by simp, rfl⟩ _ rfl
                    replace h107 := h107 _ rfl
                    have HI := Lib.hid hi
                    clear H F hi hL
                    go_wp2_with fail
                    exact hK _ _ (Below.refl _ _) HI.out rfl
                  · intro L a wx Q' hL hi H F hK
                    try dsimp only at hi
                    obtain ⟨_, h122, rfl⟩ := H 17 ⟨.data, by simp, rfl⟩ _ rfl
                    replace h122 := h122 _ rfl
                    obtain ⟨_, h107, rfl⟩ := H 2 ⟨.guard, by simp, rfl⟩ _ rfl
                    replace h107 := h107 _ rfl
                    have HI := Lib.hid hi
                    clear H F hi hL
                    go_wp2_with fail
                    exact hK _ _ (Below.refl _ _) HI.out rfl
                  · intro a wx hl L hi hL Q' hK
                    try dsimp only at hi
                    have HB := Lib.hid hi
                    clear hi hL
                    obtain ⟨_, rfl, _, rfl, _, rfl, _, rfl, _, rfl, _, rfl, _, rfl, _, rfl, _, rfl, _, rfl, _, rfl, _, rfl, _, rfl, _, rfl, _, rfl, _, rfl, _, rfl, _, rfl, _, rfl, rfl⟩ := hl
                    simp only [List.setIfInBounds_toArray, List.set_cons_zero, List.set_cons_succ]
                    skip
                    have HMQ0 := Lib.hid (HMR.out.under HB.out)
                    have HDQ0 := Lib.hid (Whole.under HB.out HDR.out HDR.out.lt)
                    have HGQ0 := Lib.hid (Whole.under HB.out HGR.out HGR.out.lt)
                    clear HB
                    cases r with
                    | false =>
                      have hdn := Lib.hid (down HNO.out hpm (fun hh => by
                        obtain ⟨_, o', ho', hk'⟩ := hh
                        rw [HYP.out] at ho'
                        cases ho'
                        have := of_decide_eq_false HRR.out.symm
                        exact this hk'))
                      go_wp2_with fail
                      go_roundw
                      case rel =>
                        (repeat apply Exists.intro)
                        first | exact ⟨HMQ0.out, HDQ0.out, HGQ0.out, hdn.out⟩ | exact ⟨⟨HMQ0.out, HDQ0.out, HGQ0.out, hdn.out⟩, rfl⟩
                      case measure => simp [intOf] <;> omega
                    | true =>
                      go_wp2_with fail
                      go_quiet (fail)
                      go_wp2_with fail
                      go_roundw
                      case rel => exact ⟨m + 1, t, bt, by omega, by go_num, HMQ0.out.under (below_drewN (Below.refl _ _) _), HDQ0.out, HLEN2.out, HCT0.out.mono (by omega), HLT.out⟩
                      case measure => simp [intOf] <;> omega
          | true =>
            clear hbo
            cases bi with
            | false =>
              go_wp2_with fail
              have HEX := Lib.hid (HLT.out.got y.key d (has_get HO.out.symm HD.out))
              clear kd
              go_loopw [10] (fun i wr => Many (fun i => i = w1.heap.size) w.heap.size w wr [(cb, t)] ∧ Whole wr w1.heap.size 4 (flags bt) ∧ Whole wr g 46 #[.int .u32 d.allowed, .int .u32 d.auditAllow, .int .u32 d.auditDeny, .bool d.permissive, .int .i64 d.seq] ∧ ((i = .int .i64 (-1) ∧ ∀ n', n' ≤ m → ¬ Hit l bt n' y.key) ∨ ∃ p : Nat, p ≤ m ∧ i = .int .i64 p ∧ ∀ n', p < n' → n' ≤ m → ¬ Hit l bt n' y.key)) (fun i _ => (intOf i + 1).toNat)
              case atStart => exact ⟨HMX.out, HDX.out, HGX.out, .inr ⟨m, Nat.le_refl _, rfl, fun n' h1 h2 => by omega⟩⟩
              case round =>
                obtain ⟨hm2, hd2, hg2, hj⟩ := hrel
                have HMR := Lib.hid hm2
                have HDR := Lib.hid hd2
                have HGR := Lib.hid hg2
                clear hm2 hd2 hg2
                rcases hj with ⟨rfl, hno⟩ | ⟨p, hpm, rfl, hno⟩
                · have HNO := Lib.hid hno
                  clear hno
                  exfalso
                  obtain ⟨n', o', h1, h2, _⟩ := HEX.out
                  exact HNO.out n' (by omega) h2
                · have HNO := Lib.hid hno
                  clear hno
                  obtain ⟨bp, hbp⟩ : ∃ bp, bt[p]? = some bp := ⟨_, List.getElem?_eq_getElem (by have := HLEN2.out; omega)⟩
                  obtain ⟨yp, hyp⟩ : ∃ yp, l[p]? = some yp := ⟨_, List.getElem?_eq_getElem (by omega)⟩
                  obtain ⟨b', off', hbo', hcp⟩ := H1.out p yp hyp
                  cases hbo'
                  have HCP := Lib.hid hcp
                  have HBP := Lib.hid hbp
                  have HYP := Lib.hid hyp
                  clear hbp hyp hcp
                  have hz : ¬ ((p : Int) < 0) := by omega
                  cases bp with
                  | false =>
                    have hdn := Lib.hid (down HNO.out hpm (fun hh => by have := hh.1; rw [HBP.out] at this; cases this))
                    have kd : wr.cell? ⟨w1.heap.size, p, none⟩ = some (.bool false) := by rw [HDR.out.cell, flags_at, HBP.out]; rfl
                    go_wp2_with fail
                    go_quiet (fail)
                    go_wp2_with fail
                    go_roundw
                    case rel =>
                      (repeat apply Exists.intro)
                      first | exact ⟨HMR.out.under (below_drewN (Below.refl _ _) _), HDR.out, HGR.out, hdn.out⟩ | exact ⟨⟨HMR.out.under (below_drewN (Below.refl _ _) _), HDR.out, HGR.out, hdn.out⟩, rfl⟩
                    case measure => simp [intOf] <;> omega
                  | true =>
                    obtain ⟨r, hr⟩ : ∃ r, r = decide (yp.key = y.key) := ⟨_, rfl⟩
                    have HRR := Lib.hid hr
                    clear hr
                    go_wp2_with fail
                    refine wp_region_last (fun w w' => Below w.heap.size w w') [some 105, some 106, some 107, some 108, some 109, some 110, some 111, some 112, some 113, some 114, some 115, some 116, some 117, some 118, some 119, some 120, some 121, some 122, some 123] [isV (.int .i64 (p : Nat)), isV (.bool true), isV (.bool true), isV (.slice (some ⟨w1.heap.size, 0, none⟩) l.length l.length), isV (.int .i64 (p : Nat)), isV (.pointer (some ⟨w1.heap.size, p, none⟩)), isV (.bool true), isV (.bool true), isV (.slice (some ⟨b, off, none⟩) l.length c), isV (.int .i64 (p : Nat)), isV (.pointer (some ⟨b, off + p * 6, none⟩)), isV (.agg #[.int .u8 yp.kind, .int .i64 yp.src, .int .i64 yp.tgt, .int .i64 yp.cls, .int .u32 yp.allowed, .int .i64 yp.seq]), isV (.slice (some ⟨b, off, none⟩) l.length c), isV (.int .i64 (m : Nat)), isV (.pointer (some ⟨b, off + m * 6, none⟩)), isV (.agg #[.int .u8 y.kind, .int .i64 y.src, .int .i64 y.tgt, .int .i64 y.cls, .int .u32 y.allowed, .int .i64 y.seq]), isV (.bool r), isV (.bool r), isV (.bool (!r))] (fun _ w' => Below wr.heap.size wr w') 19 (by kernel_rfl) (by kernel_rfl) (by kernel_rfl) rfl (by decide) rfl rfl ((Below.refl _ _).drew) ⟨lasts_is _, lasts_is _, lasts_is _, lasts_is _, lasts_is _, lasts_is _, lasts_is _, lasts_is _, lasts_is _, lasts_is _, lasts_is _, lasts_is _, lasts_is _, lasts_is _, lasts_is _, lasts_is _, lasts_is _, lasts_is _, lasts_is _, trivial⟩ ⟨(fun _ => lastsR_is _), (fun _ => lastsR_is _), (fun _ => lastsR_is _), (fun _ => lastsR_is _), (fun _ => lastsR_is _), (fun _ => lastsR_is _), (fun _ => lastsR_is _), (fun _ => lastsR_is _), (fun _ => lastsR_is _), (fun _ => lastsR_is _), (fun _ => lastsR_is _), (fun _ => lastsR_is _), (fun _ => lastsR_is _), (fun _ => lastsR_is _), (fun _ => lastsR_is _), (fun _ => lastsR_is _), (fun _ => lastsR_is _), (fun _ => lastsR_is _), (fun _ => lastsR_is _), trivial⟩ ⟨?_, ?_, ?_, ?_, ?_, ?_, ?_, ?_, ?_, ?_, ?_, ?_, ?_, ?_, ?_, ?_, ?_, ?_, ?_, ?_⟩
                    · intro L a wx Q' hL hi H F hK
                      try dsimp only at hi
                      have h10 : a.tmps[10]? = some (.int .i64 (p : Nat)) := F 10 rfl
                      have HI := Lib.hid hi
                      clear H F hi hL
                      go_wp2_with fail
                      exact hK _ _ (Below.refl _ _) HI.out rfl
                    · intro L a wx Q' hL hi H F hK
                      try dsimp only at hi
                      obtain ⟨_, h105, rfl⟩ := H 0 ⟨.data, by simp, rfl⟩ _ rfl
                      replace h105 := h105 _ rfl
                      have HI := Lib.hid hi
                      clear H F hi hL
                      go_wp2_with fail
                      exact hK _ _ (Below.refl _ _) HI.out rfl
                    · intro L a wx Q' hL hi H F hK
                      try dsimp only at hi
                      obtain ⟨_, h106, rfl⟩ := H 1 ⟨.data, by simp, rfl⟩ _ rfl
                      replace h106 := h106 _ rfl
                      have HI := Lib.hid hi
                      clear H F hi hL
                      go_wp2_with fail
                      exact hK _ _ (Below.refl _ _) HI.out rfl
                    · intro L a wx Q' hL hi H F hK
                      try dsimp only at hi
                      obtain ⟨_, h107, rfl⟩ := H 2 ⟨.guard, by simp, rfl⟩ _ rfl
                      replace h107 := h107 _ rfl
                      have h6 : a.tmps[6]? = some (.slice (some ⟨w1.heap.size, 0, none⟩) l.length l.length) := F 6 rfl
                      have HI := Lib.hid hi
                      clear H F hi hL
                      go_wp2_with fail
                      exact hK _ _ (Below.refl _ _) HI.out rfl
                    · intro L a wx Q' hL hi H F hK
                      try dsimp only at hi
                      obtain ⟨_, h107, rfl⟩ := H 2 ⟨.guard, by simp, rfl⟩ _ rfl
                      replace h107 := h107 _ rfl
                      have h10 : a.tmps[10]? = some (.int .i64 (p : Nat)) := F 10 rfl
                      have HI := Lib.hid hi
                      clear H F hi hL
                      go_wp2_with fail
                      exact hK _ _ (Below.refl _ _) HI.out rfl
                    · intro L a wx Q' hL hi H F hK
                      try dsimp only at hi
                      obtain ⟨_, h108, rfl⟩ := H 3 ⟨.data, by simp, rfl⟩ _ rfl
                      replace h108 := h108 _ rfl
                      obtain ⟨_, h109, rfl⟩ := H 4 ⟨.data, by simp, rfl⟩ _ rfl
                      replace h109 := h109 _ rfl
                      obtain ⟨_, h107, rfl⟩ := H 2 ⟨.guard, by simp, rfl⟩ _ rfl
                      replace h107 := h107 _ rfl
                      have HI := Lib.hid hi
                      clear H F hi hL
                      go_wp2_with fail
                      exact hK _ _ (Below.refl _ _) HI.out rfl
                    · intro L a wx Q' hL hi H F hK
                      try dsimp only at hi
                      obtain ⟨_, h110, rfl⟩ := H 5 ⟨.data, by simp, rfl⟩ _ rfl
                      replace h110 := h110 _ rfl
                      obtain ⟨_, h107, rfl⟩ := H 2 ⟨.guard, by simp, rfl⟩ _ rfl
                      replace h107 := h107 _ rfl
                      have HI := Lib.hid hi
                      clear H F hi hL
                      have kq : wx.cell? ⟨w1.heap.size, p, none⟩ = some (.bool true) := by rw [(Whole.under HI.out HDR.out HDR.out.lt).cell, flags_at, HBP.out]; rfl
                      go_wp2_with fail
                      exact hK _ _ (Below.refl _ _) HI.out rfl
                    · intro L a wx Q' hL hi H F hK
                      try dsimp only at hi
                      obtain ⟨_, h111, rfl⟩ := H 6 ⟨.data, by simp, rfl⟩ _ rfl
                      replace h111 := h111 _ rfl
                      obtain ⟨_, h107, rfl⟩ := H 2 ⟨.guard, by simp, rfl⟩ _ rfl
                      replace h107 := h107 _ rfl
                      have HI := Lib.hid hi
                      clear H F hi hL
                      go_wp2_with fail
                      exact hK _ _ (Below.refl _ _) HI.out rfl
                    · intro L a wx Q' hL hi H F hK
                      try dsimp only at hi
                      obtain ⟨_, h112, rfl⟩ := H 7 ⟨.guard, by simp, rfl⟩ _ rfl
                      replace h112 := h112 _ rfl
                      have h1 : a.tmps[1]? = some (.slice (some ⟨b, off, none⟩) l.length c) := F 1 rfl
                      have HI := Lib.hid hi
                      clear H F hi hL
                      go_wp2_with fail
                      exact hK _ _ (Below.refl _ _) HI.out rfl
                    · intro L a wx Q' hL hi H F hK
                      try dsimp only at hi
                      obtain ⟨_, h112, rfl⟩ := H 7 ⟨.guard, by simp, rfl⟩ _ rfl
                      replace h112 := h112 _ rfl
                      have h10 : a.tmps[10]? = some (.int .i64 (p : Nat)) := F 10 rfl
                      have HI := Lib.hid hi
                      clear H F hi hL
                      go_wp2_with fail
                      exact hK _ _ (Below.refl _ _) HI.out rfl
                    · intro L a wx Q' hL hi H F hK
                      try dsimp only at hi
                      obtain ⟨_, h113, rfl⟩ := H 8 ⟨.data, by simp, rfl⟩ _ rfl
                      replace h113 := h113 _ rfl
                      obtain ⟨_, h114, rfl⟩ := H 9 ⟨.data, by simp, rfl⟩ _ rfl
                      replace h114 := h114 _ rfl
                      obtain ⟨_, h112, rfl⟩ := H 7 ⟨.guard, by simp, rfl⟩ _ rfl
                      replace h112 := h112 _ rfl
                      have HI := Lib.hid hi
                      clear H F hi hL
                      go_wp2_with fail
                      exact hK _ _ (Below.refl _ _) HI.out rfl
                    · intro L a wx Q' hL hi H F hK
                      try dsimp only at hi
                      obtain ⟨_, h115, rfl⟩ := H 10 ⟨.data, by simp, rfl⟩ _ rfl
                      replace h115 := h115 _ rfl
                      obtain ⟨_, h112, rfl⟩ := H 7 ⟨.guard, by simp, rfl⟩ _ rfl
                      replace h112 := h112 _ rfl
                      have HI := Lib.hid hi
                      clear H F hi hL
                      obtain ⟨k0, k1, k2, k3, k4, k5⟩ := HCP.out wx ((HMR.out.under HI.out).below)
                      go_wp2_with fail
                      exact hK _ _ (Below.refl _ _) HI.out rfl
                    · intro L a wx Q' hL hi H F hK
                      try dsimp only at hi
                      obtain ⟨_, h112, rfl⟩ := H 7 ⟨.guard, by simp, rfl⟩ _ rfl
                      replace h112 := h112 _ rfl
                      have h1 : a.tmps[1]? = some (.slice (some ⟨b, off, none⟩) l.length c) := F 1 rfl
                      have HI := Lib.hid hi
                      clear H F hi hL
                      go_wp2_with fail
                      exact hK _ _ (Below.refl _ _) HI.out rfl
                    · intro L a wx Q' hL hi H F hK
                      try dsimp only at hi
                      obtain ⟨_, h112, rfl⟩ := H 7 ⟨.guard, by simp, rfl⟩ _ rfl
                      replace h112 := h112 _ rfl
                      have h7 : a.tmps[7]? = some (.int .i64 (m : Nat)) := F 7 rfl
                      have HI := Lib.hid hi
                      clear H F hi hL
                      go_wp2_with fail
                      exact hK _ _ (Below.refl _ _) HI.out rfl
                    · intro L a wx Q' hL hi H F hK
                      try dsimp only at hi
                      obtain ⟨_, h117, rfl⟩ := H 12 ⟨.data, by simp, rfl⟩ _ rfl
                      replace h117 := h117 _ rfl
                      obtain ⟨_, h118, rfl⟩ := H 13 ⟨.data, by simp, rfl⟩ _ rfl
                      replace h118 := h118 _ rfl
                      obtain ⟨_, h112, rfl⟩ := H 7 ⟨.guard, by simp, rfl⟩ _ rfl
                      replace h112 := h112 _ rfl
                      have HI := Lib.hid hi
                      clear H F hi hL
                      go_wp2_with fail
                      exact hK _ _ (Below.refl _ _) HI.out rfl
                    · intro L a wx Q' hL hi H F hK
                      try dsimp only at hi
                      obtain ⟨_, h119, rfl⟩ := H 14 ⟨.data, by simp, rfl⟩ _ rfl
                      replace h119 := h119 _ rfl
                      obtain ⟨_, h112, rfl⟩ := H 7 ⟨.guard, by simp, rfl⟩ _ rfl
                      replace h112 := h112 _ rfl
                      have HI := Lib.hid hi
                      clear H F hi hL
                      obtain ⟨k0, k1, k2, k3, k4, k5⟩ := HCE.out wx ((HMR.out.under HI.out).below)
                      go_wp2_with fail
                      exact hK _ _ (Below.refl _ _) HI.out rfl
                    · intro L a wx Q' hL hi H F hK
                      try dsimp only at hi
                      obtain ⟨_, h116, rfl⟩ := H 11 ⟨.data, by simp, rfl⟩ _ rfl
                      replace h116 := h116 _ rfl
                      obtain ⟨_, h120, rfl⟩ := H 15 ⟨.data, by simp, rfl⟩ _ rfl
                      replace h120 := h120 _ rfl
                      obtain ⟨_, h112, rfl⟩ := H 7 ⟨.guard, by simp, rfl⟩ _ rfl
                      replace h112 := h112 _ rfl
                      have HI := Lib.hid hi
                      clear H F hi hL
                      go_wp2_with (go_at_call 24; go_must (refine (same_any yp y _).mono ?_; rintro e w2 ⟨he, hb1⟩; rw [← HRR.out] at he; subst he))
                      exact hK _ _ hb1 (HI.out.trans (hb1.mono HI.out.size)) rfl
                    · intro L a wx Q' hL hi H F hK
                      try dsimp only at hi
                      obtain ⟨_, h112, rfl⟩ := H 7 ⟨.data, by simp, rfl⟩ _ rfl
                      replace h112 := h112 _ rfl
                      obtain ⟨_, h121, rfl⟩ := H 16 ⟨.data, by simp, rfl⟩ _ rfl
                      replace h121 := h121 _ rfl
                      obtain ⟨_, h107, rfl⟩ := H 2 ⟨.guard, by simp, rfl⟩ _ rfl
                      replace h107 := h107 _ rfl
                      have HI := Lib.hid hi
                      clear H F hi hL
                      go_wp2_with fail
                      exact hK _ _ (Below.refl _ _) HI.out rfl
                    · intro L a wx Q' hL hi H F hK
                      try dsimp only at hi
                      obtain ⟨_, h122, rfl⟩ := H 17 ⟨.data, by simp, rfl⟩ _ rfl
                      replace h122 := h122 _ rfl
                      obtain ⟨_, h107, rfl⟩ := H 2 ⟨.guard, by simp, rfl⟩ _ rfl
                      replace h107 := h107 _ rfl
                      have HI := Lib.hid hi
                      clear H F hi hL
                      go_wp2_with fail
                      exact hK _ _ (Below.refl _ _) HI.out rfl
                    · intro a wx hl L hi hL Q' hK
                      try dsimp only at hi
                      have HB := Lib.hid hi
                      clear hi hL
                      obtain ⟨_, rfl, _, rfl, _, rfl, _, rfl, _, rfl, _, rfl, _, rfl, _, rfl, _, rfl, _, rfl, _, rfl, _, rfl, _, rfl, _, rfl, _, rfl, _, rfl, _, rfl, _, rfl, _, rfl, rfl⟩ := hl
                      simp only [List.setIfInBounds_toArray, List.set_cons_zero, List.set_cons_succ]
                      skip
                      have HMQ0 := Lib.hid (HMR.out.under HB.out)
                      have HDQ0 := Lib.hid (Whole.under HB.out HDR.out HDR.out.lt)
                      have HGQ0 := Lib.hid (Whole.under HB.out HGR.out HGR.out.lt)
                      clear HB
                      cases r with
                      | false =>
                        have hdn := Lib.hid (down HNO.out hpm (fun hh => by
                          obtain ⟨_, o', ho', hk'⟩ := hh
                          rw [HYP.out] at ho'
                          cases ho'
                          have := of_decide_eq_false HRR.out.symm
                          exact this hk'))
                        go_wp2_with fail
                        go_roundw
                        case rel =>
                          (repeat apply Exists.intro)
                          first | exact ⟨HMQ0.out, HDQ0.out, HGQ0.out, hdn.out⟩ | exact ⟨⟨HMQ0.out, HDQ0.out, HGQ0.out, hdn.out⟩, rfl⟩
                        case measure => simp [intOf] <;> omega
                      | true =>
                        have HDP := Lib.hid (show (.returned (.agg #[.int .u32 yp.allowed, .int .u32 0, .int .u32 0, .bool false, .int .i64 yp.seq]) : Ending) = .returned (.agg #[.int .u32 d.allowed, .int .u32 d.auditAllow, .int .u32 d.auditDeny, .bool d.permissive, .int .i64 d.seq]) from by
                          obtain ⟨n', o', h1, h2, h3, h4, h5⟩ := HEX.out
                          have hhit : Hit l bt p y.key := ⟨HBP.out, yp, HYP.out, of_decide_eq_true HRR.out.symm⟩
                          have e : n' = p := by
                            rcases Nat.lt_trichotomy n' p with h | h | h
                            · exact absurd hhit (h5 p h (by omega))
                            · exact h
                            · exact absurd h2 (HNO.out n' h (by omega))
                          subst e
                          rw [HYP.out] at h3
                          cases h3
                          rw [h4]
                          rfl)
                        obtain ⟨wq, hwq⟩ : ∃ wq, wq = wx := ⟨_, rfl⟩
                        rw [← hwq] at HMQ0 HDQ0 HGQ0 ⊢
                        clear hwq
                        have HMQ := Lib.hid HMQ0.out
                        have HGQ := Lib.hid HGQ0.out
                        have HDQ := Lib.hid HDQ0.out
                        clear HMQ0 HGQ0 HDQ0
                        go_wp2_with fail
                        refine wp_region_last (fun w w' => Below w.heap.size w w') [some 127, some 128, some 129, some 130, some 131, some 132, some 133, some 134, some 135, some 136, some 137, some 138, some 139] [isV (.bool true), isV (.bool true), isV (.int .i64 (p : Nat)), isV (.bool false), isV (.bool false), isV (.agg #[.int .u32 d.allowed, .int .u32 d.auditAllow, .int .u32 d.auditDeny, .bool d.permissive, .int .i64 d.seq]), isV (.slice (some ⟨b, off, none⟩) l.length c), isV (.int .i64 (p : Nat)), isV (.pointer (some ⟨b, off + p * 6, none⟩)), isV (.agg #[.int .u8 yp.kind, .int .i64 yp.src, .int .i64 yp.tgt, .int .i64 yp.cls, .int .u32 yp.allowed, .int .i64 yp.seq]), isV (.agg #[.int .u32 d.allowed, .int .u32 d.auditAllow, .int .u32 d.auditDeny, .bool d.permissive, .int .i64 d.seq]), isV (.bool false), isV (.bool false)] (fun _ w' => Below wq.heap.size wq w') 13 (by kernel_rfl) (by kernel_rfl) (by kernel_rfl) rfl (by decide) rfl rfl ((Below.refl _ _).drew) ⟨lasts_is _, lasts_is _, lasts_is _, lasts_is _, lasts_is _, lasts_is _, lasts_is _, lasts_is _, lasts_is _, lasts_is _, lasts_is _, lasts_is _, lasts_is _, trivial⟩ ⟨(fun _ => lastsR_is _), (fun _ => lastsR_is _), (fun _ => lastsR_is _), (fun _ => lastsR_is _), (fun _ => lastsR_is _), (fun _ => lastsR_is _), (fun _ => lastsR_is _), (fun _ => lastsR_is _), (fun _ => lastsR_is _), (fun _ => lastsR_is _), (fun _ => lastsR_is _), (fun _ => lastsR_is _), (fun _ => lastsR_is _), trivial⟩ ⟨?_, ?_, ?_, ?_, ?_, ?_, ?_, ?_, ?_, ?_, ?_, ?_, ?_, ?_⟩
                        · intro L a wx Q' hL hi H F hK
                          try dsimp only at hi
                          have h9 : a.tmps[9]? = some (.bool true) := F 9 rfl
                          have HI := Lib.hid hi
                          clear H F hi hL
                          go_wp2_with fail
                          exact hK _ _ (Below.refl _ _) HI.out rfl
                        · intro L a wx Q' hL hi H F hK
                          try dsimp only at hi
                          obtain ⟨_, h127, rfl⟩ := H 0 ⟨.data, by simp, rfl⟩ _ rfl
                          replace h127 := h127 _ rfl
                          have HI := Lib.hid hi
                          clear H F hi hL
                          go_wp2_with fail
                          exact hK _ _ (Below.refl _ _) HI.out rfl
                        · intro L a wx Q' hL hi H F hK
                          try dsimp only at hi
                          obtain ⟨_, h128, rfl⟩ := H 1 ⟨.guard, by simp, rfl⟩ _ rfl
                          replace h128 := h128 _ rfl
                          have h10 : a.tmps[10]? = some (.int .i64 (p : Nat)) := F 10 rfl
                          have HI := Lib.hid hi
                          clear H F hi hL
                          go_wp2_with fail
                          exact hK _ _ (Below.refl _ _) HI.out rfl
                        · intro L a wx Q' hL hi H F hK
                          try dsimp only at hi
                          obtain ⟨_, h129, rfl⟩ := H 2 ⟨.data, by simp, rfl⟩ _ rfl
                          replace h129 := h129 _ rfl
                          obtain ⟨_, h128, rfl⟩ := H 1 ⟨.guard, by simp, rfl⟩ _ rfl
                          replace h128 := h128 _ rfl
                          have HI := Lib.hid hi
                          clear H F hi hL
                          go_wp2_with fail
                          exact hK _ _ (Below.refl _ _) HI.out rfl
                        · intro L a wx Q' hL hi H F hK
                          try dsimp only at hi
                          obtain ⟨_, h130, rfl⟩ := H 3 ⟨.data, by simp, rfl⟩ _ rfl
                          replace h130 := h130 _ rfl
                          obtain ⟨_, h128, rfl⟩ := H 1 ⟨.guard, by simp, rfl⟩ _ rfl
                          replace h128 := h128 _ rfl
                          have HI := Lib.hid hi
                          clear H F hi hL
                          go_wp2_with fail
                          exact hK _ _ (Below.refl _ _) HI.out rfl
                        · intro L a wx Q' hL hi H F hK
                          try dsimp only at hi
                          obtain ⟨_, h131, rfl⟩ := H 4 ⟨.guard, by simp, rfl⟩ _ rfl
                          replace h131 := h131 _ rfl
                          have h8 : a.tmps[8]? = some (.pointer (some ⟨g, 0, none⟩)) := F 8 rfl
                          have HI := Lib.hid hi
                          clear H F hi hL
                          obtain ⟨e0, e1, e2, e3, e4⟩ := five46 (Whole.under HI.out HGQ.out HGQ.out.lt)
                          go_wp2_with fail
                          exact hK _ _ (Below.refl _ _) HI.out rfl
                        · intro L a wx Q' hL hi H F hK
                          try dsimp only at hi
                          obtain ⟨_, h131, rfl⟩ := H 4 ⟨.guard, by simp, rfl⟩ _ rfl
                          replace h131 := h131 _ rfl
                          have h1 : a.tmps[1]? = some (.slice (some ⟨b, off, none⟩) l.length c) := F 1 rfl
                          have HI := Lib.hid hi
                          clear H F hi hL
                          go_wp2_with fail
                          exact hK _ _ (Below.refl _ _) HI.out rfl
                        · intro L a wx Q' hL hi H F hK
                          try dsimp only at hi
                          obtain ⟨_, h131, rfl⟩ := H 4 ⟨.guard, by simp, rfl⟩ _ rfl
                          replace h131 := h131 _ rfl
                          have h10 : a.tmps[10]? = some (.int .i64 (p : Nat)) := F 10 rfl
                          have HI := Lib.hid hi
                          clear H F hi hL
                          go_wp2_with fail
                          exact hK _ _ (Below.refl _ _) HI.out rfl
                        · intro L a wx Q' hL hi H F hK
                          try dsimp only at hi
                          obtain ⟨_, h133, rfl⟩ := H 6 ⟨.data, by simp, rfl⟩ _ rfl
                          replace h133 := h133 _ rfl
                          obtain ⟨_, h134, rfl⟩ := H 7 ⟨.data, by simp, rfl⟩ _ rfl
                          replace h134 := h134 _ rfl
                          obtain ⟨_, h131, rfl⟩ := H 4 ⟨.guard, by simp, rfl⟩ _ rfl
                          replace h131 := h131 _ rfl
                          have HI := Lib.hid hi
                          clear H F hi hL
                          go_wp2_with fail
                          exact hK _ _ (Below.refl _ _) HI.out rfl
                        · intro L a wx Q' hL hi H F hK
                          try dsimp only at hi
                          obtain ⟨_, h135, rfl⟩ := H 8 ⟨.data, by simp, rfl⟩ _ rfl
                          replace h135 := h135 _ rfl
                          obtain ⟨_, h131, rfl⟩ := H 4 ⟨.guard, by simp, rfl⟩ _ rfl
                          replace h131 := h131 _ rfl
                          have HI := Lib.hid hi
                          clear H F hi hL
                          obtain ⟨k0, k1, k2, k3, k4, k5⟩ := HCP.out wx ((HMQ.out.under HI.out).below)
                          go_wp2_with fail
                          exact hK _ _ (Below.refl _ _) HI.out rfl
                        · intro L a wx Q' hL hi H F hK
                          try dsimp only at hi
                          obtain ⟨_, h136, rfl⟩ := H 9 ⟨.data, by simp, rfl⟩ _ rfl
                          replace h136 := h136 _ rfl
                          obtain ⟨_, h131, rfl⟩ := H 4 ⟨.guard, by simp, rfl⟩ _ rfl
                          replace h131 := h131 _ rfl
                          have HI := Lib.hid hi
                          clear H F hi hL
                          go_wp2_with (go_at_call 23; go_must (refine (decision_any yp _).mono ?_; rintro e w2 ⟨he, hb1⟩; rw [HDP.out] at he; subst he))
                          exact hK _ _ hb1 (HI.out.trans (hb1.mono HI.out.size)) rfl
                        · intro L a wx Q' hL hi H F hK
                          try dsimp only at hi
                          obtain ⟨_, h132, rfl⟩ := H 5 ⟨.data, by simp, rfl⟩ _ rfl
                          replace h132 := h132 _ rfl
                          obtain ⟨_, h137, rfl⟩ := H 10 ⟨.data, by simp, rfl⟩ _ rfl
                          replace h137 := h137 _ rfl
                          obtain ⟨_, h131, rfl⟩ := H 4 ⟨.guard, by simp, rfl⟩ _ rfl
                          replace h131 := h131 _ rfl
                          have HI := Lib.hid hi
                          clear H F hi hL
                          have q := eq_dec d.allowed d.auditAllow d.auditDeny d.seq d.permissive
                          go_wp2_with fail
                          exact hK _ _ (Below.refl _ _) HI.out rfl
                        · intro L a wx Q' hL hi H F hK
                          try dsimp only at hi
                          obtain ⟨_, h131, rfl⟩ := H 4 ⟨.data, by simp, rfl⟩ _ rfl
                          replace h131 := h131 _ rfl
                          obtain ⟨_, h138, rfl⟩ := H 11 ⟨.data, by simp, rfl⟩ _ rfl
                          replace h138 := h138 _ rfl
                          obtain ⟨_, h128, rfl⟩ := H 1 ⟨.guard, by simp, rfl⟩ _ rfl
                          replace h128 := h128 _ rfl
                          have HI := Lib.hid hi
                          clear H F hi hL
                          go_wp2_with fail
                          exact hK _ _ (Below.refl _ _) HI.out rfl
                        · intro a wx hl L hi hL Q' hK
                          try dsimp only at hi
                          have HB := Lib.hid hi
                          clear hi hL
                          obtain ⟨_, rfl, _, rfl, _, rfl, _, rfl, _, rfl, _, rfl, _, rfl, _, rfl, _, rfl, _, rfl, _, rfl, _, rfl, _, rfl, rfl⟩ := hl
                          simp only [List.setIfInBounds_toArray, List.set_cons_zero, List.set_cons_succ]
                          skip
                          go_wp2_with fail
                          go_roundw
                          case rel => exact ⟨m + 1, t, bt, by omega, by go_num, HMQ.out.under HB.out, Whole.under HB.out HDQ.out HDQ.out.lt, HLEN2.out, HCT0.out.mono (by omega), HLT.out⟩
                          case measure => simp [intOf] <;> omega
            | true =>
              go_wp2_with fail
              have HEX := Lib.hid (HLT.out.got y.key d (has_get HO.out.symm HD.out))
              clear kd
              go_loopw [10] (fun i wr => Many (fun i => i = w1.heap.size) w.heap.size w wr [(cb, t)] ∧ Whole wr w1.heap.size 4 (flags bt) ∧ Whole wr g 46 #[.int .u32 d.allowed, .int .u32 d.auditAllow, .int .u32 d.auditDeny, .bool d.permissive, .int .i64 d.seq] ∧ ((i = .int .i64 (-1) ∧ ∀ n', n' ≤ m → ¬ Hit l bt n' y.key) ∨ ∃ p : Nat, p ≤ m ∧ i = .int .i64 p ∧ ∀ n', p < n' → n' ≤ m → ¬ Hit l bt n' y.key)) (fun i _ => (intOf i + 1).toNat)
              case atStart => exact ⟨HMX.out, HDX.out, HGX.out, .inr ⟨m, Nat.le_refl _, rfl, fun n' h1 h2 => by omega⟩⟩
              case round =>
                obtain ⟨hm2, hd2, hg2, hj⟩ := hrel
                have HMR := Lib.hid hm2
                have HDR := Lib.hid hd2
                have HGR := Lib.hid hg2
                clear hm2 hd2 hg2
                rcases hj with ⟨rfl, hno⟩ | ⟨p, hpm, rfl, hno⟩
                · have HNO := Lib.hid hno
                  clear hno
                  exfalso
                  obtain ⟨n', o', h1, h2, _⟩ := HEX.out
                  exact HNO.out n' (by omega) h2
                · have HNO := Lib.hid hno
                  clear hno
                  obtain ⟨bp, hbp⟩ : ∃ bp, bt[p]? = some bp := ⟨_, List.getElem?_eq_getElem (by have := HLEN2.out; omega)⟩
                  obtain ⟨yp, hyp⟩ : ∃ yp, l[p]? = some yp := ⟨_, List.getElem?_eq_getElem (by omega)⟩
                  obtain ⟨b', off', hbo', hcp⟩ := H1.out p yp hyp
                  cases hbo'
                  have HCP := Lib.hid hcp
                  have HBP := Lib.hid hbp
                  have HYP := Lib.hid hyp
                  clear hbp hyp hcp
                  have hz : ¬ ((p : Int) < 0) := by omega
                  cases bp with
                  | false =>
                    have hdn := Lib.hid (down HNO.out hpm (fun hh => by have := hh.1; rw [HBP.out] at this; cases this))
                    have kd : wr.cell? ⟨w1.heap.size, p, none⟩ = some (.bool false) := by rw [HDR.out.cell, flags_at, HBP.out]; rfl
                    go_wp2_with fail
                    go_quiet (fail)
                    go_wp2_with fail
                    go_roundw
                    case rel =>
                      (repeat apply Exists.intro)
                      first | exact ⟨HMR.out.under (below_drewN (Below.refl _ _) _), HDR.out, HGR.out, hdn.out⟩ | exact ⟨⟨HMR.out.under (below_drewN (Below.refl _ _) _), HDR.out, HGR.out, hdn.out⟩, rfl⟩
                    case measure => simp [intOf] <;> omega
                  | true =>
                    obtain ⟨r, hr⟩ : ∃ r, r = decide (yp.key = y.key) := ⟨_, rfl⟩
                    have HRR := Lib.hid hr
                    clear hr
                    go_wp2_with fail
                    refine wp_region_last (fun w w' => Below w.heap.size w w') [some 105, some 106, some 107, some 108, some 109, some 110, some 111, some 112, some 113, some 114, some 115, some 116, some 117, some 118, some 119, some 120, some 121, some 122, some 123] [isV (.int .i64 (p : Nat)), isV (.bool true), isV (.bool true), isV (.slice (some ⟨w1.heap.size, 0, none⟩) l.length l.length), isV (.int .i64 (p : Nat)), isV (.pointer (some ⟨w1.heap.size, p, none⟩)), isV (.bool true), isV (.bool true), isV (.slice (some ⟨b, off, none⟩) l.length c), isV (.int .i64 (p : Nat)), isV (.pointer (some ⟨b, off + p * 6, none⟩)), isV (.agg #[.int .u8 yp.kind, .int .i64 yp.src, .int .i64 yp.tgt, .int .i64 yp.cls, .int .u32 yp.allowed, .int .i64 yp.seq]), isV (.slice (some ⟨b, off, none⟩) l.length c), isV (.int .i64 (m : Nat)), isV (.pointer (some ⟨b, off + m * 6, none⟩)), isV (.agg #[.int .u8 y.kind, .int .i64 y.src, .int .i64 y.tgt, .int .i64 y.cls, .int .u32 y.allowed, .int .i64 y.seq]), isV (.bool r), isV (.bool r), isV (.bool (!r))] (fun _ w' => Below wr.heap.size wr w') 19 (by kernel_rfl) (by kernel_rfl) (by kernel_rfl) rfl (by decide) rfl rfl ((Below.refl _ _).drew) ⟨lasts_is _, lasts_is _, lasts_is _, lasts_is _, lasts_is _, lasts_is _, lasts_is _, lasts_is _, lasts_is _, lasts_is _, lasts_is _, lasts_is _, lasts_is _, lasts_is _, lasts_is _, lasts_is _, lasts_is _, lasts_is _, lasts_is _, trivial⟩ ⟨(fun _ => lastsR_is _), (fun _ => lastsR_is _), (fun _ => lastsR_is _), (fun _ => lastsR_is _), (fun _ => lastsR_is _), (fun _ => lastsR_is _), (fun _ => lastsR_is _), (fun _ => lastsR_is _), (fun _ => lastsR_is _), (fun _ => lastsR_is _), (fun _ => lastsR_is _), (fun _ => lastsR_is _), (fun _ => lastsR_is _), (fun _ => lastsR_is _), (fun _ => lastsR_is _), (fun _ => lastsR_is _), (fun _ => lastsR_is _), (fun _ => lastsR_is _), (fun _ => lastsR_is _), trivial⟩ ⟨?_, ?_, ?_, ?_, ?_, ?_, ?_, ?_, ?_, ?_, ?_, ?_, ?_, ?_, ?_, ?_, ?_, ?_, ?_, ?_⟩
                    · intro L a wx Q' hL hi H F hK
                      try dsimp only at hi
                      have h10 : a.tmps[10]? = some (.int .i64 (p : Nat)) := F 10 rfl
                      have HI := Lib.hid hi
                      clear H F hi hL
                      go_wp2_with fail
                      exact hK _ _ (Below.refl _ _) HI.out rfl
                    · intro L a wx Q' hL hi H F hK
                      try dsimp only at hi
                      obtain ⟨_, h105, rfl⟩ := H 0 ⟨.data, by simp, rfl⟩ _ rfl
                      replace h105 := h105 _ rfl
                      have HI := Lib.hid hi
                      clear H F hi hL
                      go_wp2_with fail
                      exact hK _ _ (Below.refl _ _) HI.out rfl
                    · intro L a wx Q' hL hi H F hK
                      try dsimp only at hi
                      obtain ⟨_, h106, rfl⟩ := H 1 ⟨.data, by simp, rfl⟩ _ rfl
                      replace h106 := h106 _ rfl
                      have HI := Lib.hid hi
                      clear H F hi hL
                      go_wp2_with fail
                      exact hK _ _ (Below.refl _ _) HI.out rfl
                    · intro L a wx Q' hL hi H F hK
                      try dsimp only at hi
                      obtain ⟨_, h107, rfl⟩ := H 2 ⟨.guard, by simp, rfl⟩ _ rfl
                      replace h107 := h107 _ rfl
                      have h6 : a.tmps[6]? = some (.slice (some ⟨w1.heap.size, 0, none⟩) l.length l.length) := F 6 rfl
                      have HI := Lib.hid hi
                      clear H F hi hL
                      go_wp2_with fail
                      exact hK _ _ (Below.refl _ _) HI.out rfl
                    · intro L a wx Q' hL hi H F hK
                      try dsimp only at hi
                      obtain ⟨_, h107, rfl⟩ := H 2 ⟨.guard, by simp, rfl⟩ _ rfl
                      replace h107 := h107 _ rfl
                      have h10 : a.tmps[10]? = some (.int .i64 (p : Nat)) := F 10 rfl
                      have HI := Lib.hid hi
                      clear H F hi hL
                      go_wp2_with fail
                      exact hK _ _ (Below.refl _ _) HI.out rfl
                    · intro L a wx Q' hL hi H F hK
                      try dsimp only at hi
                      obtain ⟨_, h108, rfl⟩ := H 3 ⟨.data, by simp, rfl⟩ _ rfl
                      replace h108 := h108 _ rfl
                      obtain ⟨_, h109, rfl⟩ := H 4 ⟨.data, by simp, rfl⟩ _ rfl
                      replace h109 := h109 _ rfl
                      obtain ⟨_, h107, rfl⟩ := H 2 ⟨.guard, by simp, rfl⟩ _ rfl
                      replace h107 := h107 _ rfl
                      have HI := Lib.hid hi
                      clear H F hi hL
                      go_wp2_with fail
                      exact hK _ _ (Below.refl _ _) HI.out rfl
                    · intro L a wx Q' hL hi H F hK
                      try dsimp only at hi
                      obtain ⟨_, h110, rfl⟩ := H 5 ⟨.data, by simp, rfl⟩ _ rfl
                      replace h110 := h110 _ rfl
                      obtain ⟨_, h107, rfl⟩ := H 2 ⟨.guard, by simp, rfl⟩ _ rfl
                      replace h107 := h107 _ rfl
                      have HI := Lib.hid hi
                      clear H F hi hL
                      have kq : wx.cell? ⟨w1.heap.size, p, none⟩ = some (.bool true) := by rw [(Whole.under HI.out HDR.out HDR.out.lt).cell, flags_at, HBP.out]; rfl
                      go_wp2_with fail
                      exact hK _ _ (Below.refl _ _) HI.out rfl
                    · intro L a wx Q' hL hi H F hK
                      try dsimp only at hi
                      obtain ⟨_, h111, rfl⟩ := H 6 ⟨.data, by simp, rfl⟩ _ rfl
                      replace h111 := h111 _ rfl
                      obtain ⟨_, h107, rfl⟩ := H 2 ⟨.guard, by simp, rfl⟩ _ rfl
                      replace h107 := h107 _ rfl
                      have HI := Lib.hid hi
                      clear H F hi hL
                      go_wp2_with fail
                      exact hK _ _ (Below.refl _ _) HI.out rfl
                    · intro L a wx Q' hL hi H F hK
                      try dsimp only at hi
                      obtain ⟨_, h112, rfl⟩ := H 7 ⟨.guard, by simp, rfl⟩ _ rfl
                      replace h112 := h112 _ rfl
                      have h1 : a.tmps[1]? = some (.slice (some ⟨b, off, none⟩) l.length c) := F 1 rfl
                      have HI := Lib.hid hi
                      clear H F hi hL
                      go_wp2_with fail
                      exact hK _ _ (Below.refl _ _) HI.out rfl
                    · intro L a wx Q' hL hi H F hK
                      try dsimp only at hi
                      obtain ⟨_, h112, rfl⟩ := H 7 ⟨.guard, by simp, rfl⟩ _ rfl
                      replace h112 := h112 _ rfl
                      have h10 : a.tmps[10]? = some (.int .i64 (p : Nat)) := F 10 rfl
                      have HI := Lib.hid hi
                      clear H F hi hL
                      go_wp2_with fail
                      exact hK _ _ (Below.refl _ _) HI.out rfl
                    · intro L a wx Q' hL hi H F hK
                      try dsimp only at hi
                      obtain ⟨_, h113, rfl⟩ := H 8 ⟨.data, by simp, rfl⟩ _ rfl
                      replace h113 := h113 _ rfl
                      obtain ⟨_, h114, rfl⟩ := H 9 ⟨.data, by simp, rfl⟩ _ rfl
                      replace h114 := h114 _ rfl
                      obtain ⟨_, h112, rfl⟩ := H 7 ⟨.guard, by simp, rfl⟩ _ rfl
                      replace h112 := h112 _ rfl
                      have HI := Lib.hid hi
                      clear H F hi hL
                      go_wp2_with fail
                      exact hK _ _ (Below.refl _ _) HI.out rfl
                    · intro L a wx Q' hL hi H F hK
                      try dsimp only at hi
                      obtain ⟨_, h115, rfl⟩ := H 10 ⟨.data, by simp, rfl⟩ _ rfl
                      replace h115 := h115 _ rfl
                      obtain ⟨_, h112, rfl⟩ := H 7 ⟨.guard, by simp, rfl⟩ _ rfl
                      replace h112 := h112 _ rfl
                      have HI := Lib.hid hi
                      clear H F hi hL
                      obtain ⟨k0, k1, k2, k3, k4, k5⟩ := HCP.out wx ((HMR.out.under HI.out).below)
                      go_wp2_with fail
                      exact hK _ _ (Below.refl _ _) HI.out rfl
                    · intro L a wx Q' hL hi H F hK
                      try dsimp only at hi
                      obtain ⟨_, h112, rfl⟩ := H 7 ⟨.guard, by simp, rfl⟩ _ rfl
                      replace h112 := h112 _ rfl
                      have h1 : a.tmps[1]? = some (.slice (some ⟨b, off, none⟩) l.length c) := F 1 rfl
                      have HI := Lib.hid hi
                      clear H F hi hL
                      go_wp2_with fail
                      exact hK _ _ (Below.refl _ _) HI.out rfl
                    · intro L a wx Q' hL hi H F hK
                      try dsimp only at hi
                      obtain ⟨_, h112, rfl⟩ := H 7 ⟨.guard, by simp, rfl⟩ _ rfl
                      replace h112 := h112 _ rfl
                      have h7 : a.tmps[7]? = some (.int .i64 (m : Nat)) := F 7 rfl
                      have HI := Lib.hid hi
                      clear H F hi hL
                      go_wp2_with fail
                      exact hK _ _ (Below.refl _ _) HI.out rfl
                    · intro L a wx Q' hL hi H F hK
                      try dsimp only at hi
                      obtain ⟨_, h117, rfl⟩ := H 12 ⟨.data, by simp, rfl⟩ _ rfl
                      replace h117 := h117 _ rfl
                      obtain ⟨_, h118, rfl⟩ := H 13 ⟨.data, by simp, rfl⟩ _ rfl
                      replace h118 := h118 _ rfl
                      obtain ⟨_, h112, rfl⟩ := H 7 ⟨.guard, by simp, rfl⟩ _ rfl
                      replace h112 := h112 _ rfl
                      have HI := Lib.hid hi
                      clear H F hi hL
                      go_wp2_with fail
                      exact hK _ _ (Below.refl _ _) HI.out rfl
                    · intro L a wx Q' hL hi H F hK
                      try dsimp only at hi
                      obtain ⟨_, h119, rfl⟩ := H 14 ⟨.data, by simp, rfl⟩ _ rfl
                      replace h119 := h119 _ rfl
                      obtain ⟨_, h112, rfl⟩ := H 7 ⟨.guard, by simp, rfl⟩ _ rfl
                      replace h112 := h112 _ rfl
                      have HI := Lib.hid hi
                      clear H F hi hL
                      obtain ⟨k0, k1, k2, k3, k4, k5⟩ := HCE.out wx ((HMR.out.under HI.out).below)
                      go_wp2_with fail
                      exact hK _ _ (Below.refl _ _) HI.out rfl
                    · intro L a wx Q' hL hi H F hK
                      try dsimp only at hi
                      obtain ⟨_, h116, rfl⟩ := H 11 ⟨.data, by simp, rfl⟩ _ rfl
                      replace h116 := h116 _ rfl
                      obtain ⟨_, h120, rfl⟩ := H 15 ⟨.data, by simp, rfl⟩ _ rfl
                      replace h120 := h120 _ rfl
                      obtain ⟨_, h112, rfl⟩ := H 7 ⟨.guard, by simp, rfl⟩ _ rfl
                      replace h112 := h112 _ rfl
                      have HI := Lib.hid hi
                      clear H F hi hL
                      go_wp2_with (go_at_call 24; go_must (refine (same_any yp y _).mono ?_; rintro e w2 ⟨he, hb1⟩; rw [← HRR.out] at he; subst he))
                      exact hK _ _ hb1 (HI.out.trans (hb1.mono HI.out.size)) rfl
                    · intro L a wx Q' hL hi H F hK
                      try dsimp only at hi
                      obtain ⟨_, h112, rfl⟩ := H 7 ⟨.data, by simp, rfl⟩ _ rfl
                      replace h112 := h112 _ rfl
                      obtain ⟨_, h121, rfl⟩ := H 16 ⟨.data, by simp, rfl⟩ _ rfl
                      replace h121 := h121 _ rfl
                      obtain ⟨_, h107, rfl⟩ := H 2 ⟨.guard, by simp, rfl⟩ _ rfl
                      replace h107 := h107 _ rfl
                      have HI := Lib.hid hi
                      clear H F hi hL
                      go_wp2_with fail
                      exact hK _ _ (Below.refl _ _) HI.out rfl
                    · intro L a wx Q' hL hi H F hK
                      try dsimp only at hi
                      obtain ⟨_, h122, rfl⟩ := H 17 ⟨.data, by simp, rfl⟩ _ rfl
                      replace h122 := h122 _ rfl
                      obtain ⟨_, h107, rfl⟩ := H 2 ⟨.guard, by simp, rfl⟩ _ rfl
                      replace h107 := h107 _ rfl
                      have HI := Lib.hid hi
                      clear H F hi hL
                      go_wp2_with fail
                      exact hK _ _ (Below.refl _ _) HI.out rfl
                    · intro a wx hl L hi hL Q' hK
                      try dsimp only at hi
                      have HB := Lib.hid hi
                      clear hi hL
                      obtain ⟨_, rfl, _, rfl, _, rfl, _, rfl, _, rfl, _, rfl, _, rfl, _, rfl, _, rfl, _, rfl, _, rfl, _, rfl, _, rfl, _, rfl, _, rfl, _, rfl, _, rfl, _, rfl, _, rfl, rfl⟩ := hl
                      simp only [List.setIfInBounds_toArray, List.set_cons_zero, List.set_cons_succ]
                      skip
                      have HMQ0 := Lib.hid (HMR.out.under HB.out)
                      have HDQ0 := Lib.hid (Whole.under HB.out HDR.out HDR.out.lt)
                      have HGQ0 := Lib.hid (Whole.under HB.out HGR.out HGR.out.lt)
                      clear HB
                      cases r with
                      | false =>
                        have hdn := Lib.hid (down HNO.out hpm (fun hh => by
                          obtain ⟨_, o', ho', hk'⟩ := hh
                          rw [HYP.out] at ho'
                          cases ho'
                          have := of_decide_eq_false HRR.out.symm
                          exact this hk'))
                        go_wp2_with fail
                        go_roundw
                        case rel =>
                          (repeat apply Exists.intro)
                          first | exact ⟨HMQ0.out, HDQ0.out, HGQ0.out, hdn.out⟩ | exact ⟨⟨HMQ0.out, HDQ0.out, HGQ0.out, hdn.out⟩, rfl⟩
                        case measure => simp [intOf] <;> omega
                      | true =>
                        have HDP := Lib.hid (show (.returned (.agg #[.int .u32 yp.allowed, .int .u32 0, .int .u32 0, .bool false, .int .i64 yp.seq]) : Ending) = .returned (.agg #[.int .u32 d.allowed, .int .u32 d.auditAllow, .int .u32 d.auditDeny, .bool d.permissive, .int .i64 d.seq]) from by
                          obtain ⟨n', o', h1, h2, h3, h4, h5⟩ := HEX.out
                          have hhit : Hit l bt p y.key := ⟨HBP.out, yp, HYP.out, of_decide_eq_true HRR.out.symm⟩
                          have e : n' = p := by
                            rcases Nat.lt_trichotomy n' p with h | h | h
                            · exact absurd hhit (h5 p h (by omega))
                            · exact h
                            · exact absurd h2 (HNO.out n' h (by omega))
                          subst e
                          rw [HYP.out] at h3
                          cases h3
                          rw [h4]
                          rfl)
                        obtain ⟨wq, hwq⟩ : ∃ wq, wq = wx := ⟨_, rfl⟩
                        rw [← hwq] at HMQ0 HDQ0 HGQ0 ⊢
                        clear hwq
                        have HMQ := Lib.hid HMQ0.out
                        have HGQ := Lib.hid HGQ0.out
                        have HDQ := Lib.hid HDQ0.out
                        clear HMQ0 HGQ0 HDQ0
                        go_wp2_with fail
                        refine wp_region_last (fun w w' => Below w.heap.size w w') [some 127, some 128, some 129, some 130, some 131, some 132, some 133, some 134, some 135, some 136, some 137, some 138, some 139] [isV (.bool true), isV (.bool true), isV (.int .i64 (p : Nat)), isV (.bool false), isV (.bool false), isV (.agg #[.int .u32 d.allowed, .int .u32 d.auditAllow, .int .u32 d.auditDeny, .bool d.permissive, .int .i64 d.seq]), isV (.slice (some ⟨b, off, none⟩) l.length c), isV (.int .i64 (p : Nat)), isV (.pointer (some ⟨b, off + p * 6, none⟩)), isV (.agg #[.int .u8 yp.kind, .int .i64 yp.src, .int .i64 yp.tgt, .int .i64 yp.cls, .int .u32 yp.allowed, .int .i64 yp.seq]), isV (.agg #[.int .u32 d.allowed, .int .u32 d.auditAllow, .int .u32 d.auditDeny, .bool d.permissive, .int .i64 d.seq]), isV (.bool false), isV (.bool false)] (fun _ w' => Below wq.heap.size wq w') 13 (by kernel_rfl) (by kernel_rfl) (by kernel_rfl) rfl (by decide) rfl rfl ((Below.refl _ _).drew) ⟨lasts_is _, lasts_is _, lasts_is _, lasts_is _, lasts_is _, lasts_is _, lasts_is _, lasts_is _, lasts_is _, lasts_is _, lasts_is _, lasts_is _, lasts_is _, trivial⟩ ⟨(fun _ => lastsR_is _), (fun _ => lastsR_is _), (fun _ => lastsR_is _), (fun _ => lastsR_is _), (fun _ => lastsR_is _), (fun _ => lastsR_is _), (fun _ => lastsR_is _), (fun _ => lastsR_is _), (fun _ => lastsR_is _), (fun _ => lastsR_is _), (fun _ => lastsR_is _), (fun _ => lastsR_is _), (fun _ => lastsR_is _), trivial⟩ ⟨?_, ?_, ?_, ?_, ?_, ?_, ?_, ?_, ?_, ?_, ?_, ?_, ?_, ?_⟩
                        · intro L a wx Q' hL hi H F hK
                          try dsimp only at hi
                          have h9 : a.tmps[9]? = some (.bool true) := F 9 rfl
                          have HI := Lib.hid hi
                          clear H F hi hL
                          go_wp2_with fail
                          exact hK _ _ (Below.refl _ _) HI.out rfl
                        · intro L a wx Q' hL hi H F hK
                          try dsimp only at hi
                          obtain ⟨_, h127, rfl⟩ := H 0 ⟨.data, by simp, rfl⟩ _ rfl
                          replace h127 := h127 _ rfl
                          have HI := Lib.hid hi
                          clear H F hi hL
                          go_wp2_with fail
                          exact hK _ _ (Below.refl _ _) HI.out rfl
                        · intro L a wx Q' hL hi H F hK
                          try dsimp only at hi
                          obtain ⟨_, h128, rfl⟩ := H 1 ⟨.guard, by simp, rfl⟩ _ rfl
                          replace h128 := h128 _ rfl
                          have h10 : a.tmps[10]? = some (.int .i64 (p : Nat)) := F 10 rfl
                          have HI := Lib.hid hi
                          clear H F hi hL
                          go_wp2_with fail
                          exact hK _ _ (Below.refl _ _) HI.out rfl
                        · intro L a wx Q' hL hi H F hK
                          try dsimp only at hi
                          obtain ⟨_, h129, rfl⟩ := H 2 ⟨.data, by simp, rfl⟩ _ rfl
                          replace h129 := h129 _ rfl
                          obtain ⟨_, h128, rfl⟩ := H 1 ⟨.guard, by simp, rfl⟩ _ rfl
                          replace h128 := h128 _ rfl
                          have HI := Lib.hid hi
                          clear H F hi hL
                          go_wp2_with fail
                          exact hK _ _ (Below.refl _ _) HI.out rfl
                        · intro L a wx Q' hL hi H F hK
                          try dsimp only at hi
                          obtain ⟨_, h130, rfl⟩ := H 3 ⟨.data, by simp, rfl⟩ _ rfl
                          replace h130 := h130 _ rfl
                          obtain ⟨_, h128, rfl⟩ := H 1 ⟨.guard, by simp, rfl⟩ _ rfl
                          replace h128 := h128 _ rfl
                          have HI := Lib.hid hi
                          clear H F hi hL
                          go_wp2_with fail
                          exact hK _ _ (Below.refl _ _) HI.out rfl
                        · intro L a wx Q' hL hi H F hK
                          try dsimp only at hi
                          obtain ⟨_, h131, rfl⟩ := H 4 ⟨.guard, by simp, rfl⟩ _ rfl
                          replace h131 := h131 _ rfl
                          have h8 : a.tmps[8]? = some (.pointer (some ⟨g, 0, none⟩)) := F 8 rfl
                          have HI := Lib.hid hi
                          clear H F hi hL
                          obtain ⟨e0, e1, e2, e3, e4⟩ := five46 (Whole.under HI.out HGQ.out HGQ.out.lt)
                          go_wp2_with fail
                          exact hK _ _ (Below.refl _ _) HI.out rfl
                        · intro L a wx Q' hL hi H F hK
                          try dsimp only at hi
                          obtain ⟨_, h131, rfl⟩ := H 4 ⟨.guard, by simp, rfl⟩ _ rfl
                          replace h131 := h131 _ rfl
                          have h1 : a.tmps[1]? = some (.slice (some ⟨b, off, none⟩) l.length c) := F 1 rfl
                          have HI := Lib.hid hi
                          clear H F hi hL
                          go_wp2_with fail
                          exact hK _ _ (Below.refl _ _) HI.out rfl
                        · intro L a wx Q' hL hi H F hK
                          try dsimp only at hi
                          obtain ⟨_, h131, rfl⟩ := H 4 ⟨.guard, by simp, rfl⟩ _ rfl
                          replace h131 := h131 _ rfl
                          have h10 : a.tmps[10]? = some (.int .i64 (p : Nat)) := F 10 rfl
                          have HI := Lib.hid hi
                          clear H F hi hL
                          go_wp2_with fail
                          exact hK _ _ (Below.refl _ _) HI.out rfl
                        · intro L a wx Q' hL hi H F hK
                          try dsimp only at hi
                          obtain ⟨_, h133, rfl⟩ := H 6 ⟨.data, by simp, rfl⟩ _ rfl
                          replace h133 := h133 _ rfl
                          obtain ⟨_, h134, rfl⟩ := H 7 ⟨.data, by simp, rfl⟩ _ rfl
                          replace h134 := h134 _ rfl
                          obtain ⟨_, h131, rfl⟩ := H 4 ⟨.guard, by simp, rfl⟩ _ rfl
                          replace h131 := h131 _ rfl
                          have HI := Lib.hid hi
                          clear H F hi hL
                          go_wp2_with fail
                          exact hK _ _ (Below.refl _ _) HI.out rfl
                        · intro L a wx Q' hL hi H F hK
                          try dsimp only at hi
                          obtain ⟨_, h135, rfl⟩ := H 8 ⟨.data, by simp, rfl⟩ _ rfl
                          replace h135 := h135 _ rfl
                          obtain ⟨_, h131, rfl⟩ := H 4 ⟨.guard, by simp, rfl⟩ _ rfl
                          replace h131 := h131 _ rfl
                          have HI := Lib.hid hi
                          clear H F hi hL
                          obtain ⟨k0, k1, k2, k3, k4, k5⟩ := HCP.out wx ((HMQ.out.under HI.out).below)
                          go_wp2_with fail
                          exact hK _ _ (Below.refl _ _) HI.out rfl
                        · intro L a wx Q' hL hi H F hK
                          try dsimp only at hi
                          obtain ⟨_, h136, rfl⟩ := H 9 ⟨.data, by simp, rfl⟩ _ rfl
                          replace h136 := h136 _ rfl
                          obtain ⟨_, h131, rfl⟩ := H 4 ⟨.guard, by simp, rfl⟩ _ rfl
                          replace h131 := h131 _ rfl
                          have HI := Lib.hid hi
                          clear H F hi hL
                          go_wp2_with (go_at_call 23; go_must (refine (decision_any yp _).mono ?_; rintro e w2 ⟨he, hb1⟩; rw [HDP.out] at he; subst he))
                          exact hK _ _ hb1 (HI.out.trans (hb1.mono HI.out.size)) rfl
                        · intro L a wx Q' hL hi H F hK
                          try dsimp only at hi
                          obtain ⟨_, h132, rfl⟩ := H 5 ⟨.data, by simp, rfl⟩ _ rfl
                          replace h132 := h132 _ rfl
                          obtain ⟨_, h137, rfl⟩ := H 10 ⟨.data, by simp, rfl⟩ _ rfl
                          replace h137 := h137 _ rfl
                          obtain ⟨_, h131, rfl⟩ := H 4 ⟨.guard, by simp, rfl⟩ _ rfl
                          replace h131 := h131 _ rfl
                          have HI := Lib.hid hi
                          clear H F hi hL
                          have q := eq_dec d.allowed d.auditAllow d.auditDeny d.seq d.permissive
                          go_wp2_with fail
                          exact hK _ _ (Below.refl _ _) HI.out rfl
                        · intro L a wx Q' hL hi H F hK
                          try dsimp only at hi
                          obtain ⟨_, h131, rfl⟩ := H 4 ⟨.data, by simp, rfl⟩ _ rfl
                          replace h131 := h131 _ rfl
                          obtain ⟨_, h138, rfl⟩ := H 11 ⟨.data, by simp, rfl⟩ _ rfl
                          replace h138 := h138 _ rfl
                          obtain ⟨_, h128, rfl⟩ := H 1 ⟨.guard, by simp, rfl⟩ _ rfl
                          replace h128 := h128 _ rfl
                          have HI := Lib.hid hi
                          clear H F hi hL
                          go_wp2_with fail
                          exact hK _ _ (Below.refl _ _) HI.out rfl
                        · intro a wx hl L hi hL Q' hK
                          try dsimp only at hi
                          have HB := Lib.hid hi
                          clear hi hL
                          obtain ⟨_, rfl, _, rfl, _, rfl, _, rfl, _, rfl, _, rfl, _, rfl, _, rfl, _, rfl, _, rfl, _, rfl, _, rfl, _, rfl, rfl⟩ := hl
                          simp only [List.setIfInBounds_toArray, List.set_cons_zero, List.set_cons_succ]
                          skip
                          go_wp2_with fail
                          go_roundw
                          case rel => exact ⟨m + 1, t, bt, by omega, by go_num, HMQ.out.under HB.out, Whole.under HB.out HDQ.out HDQ.out.lt, HLEN2.out, HCT0.out.mono (by omega), HLT.out⟩
                          case measure => simp [intOf] <;> omega
    · obtain rfl : m = l.length := by omega
      go_wp2_with (go_at_call 10; go_must (refine (awake_any _).mono ?_; rintro e w9 ⟨rfl, hb⟩; have HM9 := Lib.hid (HM.out.under hb); clear hb))
      go_ret
      exact ⟨rfl, HM9.out.below⟩

theorem cacheLast_any (w : World) (n : Int) (v : Value) (l : List Opn) (hl : OpsAt w v l) (hw : ∀ o ∈ l, o.Wf) :
    Calls Try.prog 6 #[.int .i64 n, v] w fun e w' => e = .returned (.bool true) ∧ Below w.heap.size w w' := by
  obtain ⟨a, c, rfl, -, hm, H1⟩ := ops_form hl
  by_cases h0 : n < 1
  · exact last_lo w n a c l h0
  by_cases h1 : 20 < n
  · exact last_hi w n a c l (by omega) h1
  by_cases h2 : 60 < l.length
  · exact last_l w n a c l (by omega) (by omega) h2
  exact last_main w n a c l (by omega) (by omega) (by omega) hw H1

end Go.Proofs.Ytcdhjcjdphnleaa
