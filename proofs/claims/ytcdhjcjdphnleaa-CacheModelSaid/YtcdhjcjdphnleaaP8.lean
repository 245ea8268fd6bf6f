import Derived.Test.YtcdhjcjdphnleaaP9
namespace Go.Proofs.Ytcdhjcjdphnleaa
open Go Go.WideMaps Go.RowKit

theorem ops_form {w : World} {v : Value} {l : List Opn} (h : OpsAt w v l) : ∃ a c, v = .slice a l.length c ∧ l.length ≤ c ∧ l.length ≤ 9223372036854775807 ∧ ∀ i y, l[i]? = some y → ∃ b off, a = some ⟨b, off, none⟩ ∧
    ∀ wr, Below w.heap.size w wr → wr.cell? ⟨b, off + i * 6, none⟩ = some (.int .u8 y.kind) ∧ wr.cell? ⟨b, off + i * 6 + 1, none⟩ = some (.int .i64 y.src) ∧ wr.cell? ⟨b, off + i * 6 + 2, none⟩ = some (.int .i64 y.tgt) ∧ wr.cell? ⟨b, off + i * 6 + 3, none⟩ = some (.int .i64 y.cls) ∧ wr.cell? ⟨b, off + i * 6 + 4, none⟩ = some (.int .u32 y.allowed) ∧ wr.cell? ⟨b, off + i * 6 + 5, none⟩ = some (.int .i64 y.seq) := by
  obtain ⟨a, c, rfl, h1, h2, h3⟩ := SliceAt.form h (by decide)
  refine ⟨a, c, rfl, h1, h2, fun i y hy => ?_⟩
  obtain ⟨b, off, rfl, hc⟩ := h3 i (List.getElem?_eq_some_iff.1 hy).1
  have key : ∀ j, j < 6 → (l.flatMap Opn.cells)[i * 6 + j]? = y.cells[j]? := fun j hj => flat_at (f := Opn.cells) opn_len hy j hj
  exact ⟨b, off, rfl, fun wr hb => ⟨cell_later hb (hc 0 _ (key 0 (by omega))), cell_later hb (hc 1 _ (key 1 (by omega))), cell_later hb (hc 2 _ (key 2 (by omega))), cell_later hb (hc 3 _ (key 3 (by omega))), cell_later hb (hc 4 _ (key 4 (by omega))), cell_later hb (hc 5 _ (key 5 (by omega)))⟩⟩

theorem St.Cnt.mono {s : St} {n m : Int} (h : s.Cnt n) (hm : n ≤ m) : s.Cnt m := ⟨h.h0, h.m0, h.e0, h.r0, Int.le_trans h.h1 hm, Int.le_trans h.m1 hm, Int.le_trans h.e1 hm, Int.le_trans h.r1 hm⟩
theorem cnt_fresh (n : Int) : (fresh n).Cnt 0 := ⟨Int.le_refl _, Int.le_refl _, Int.le_refl _, Int.le_refl _, Int.le_refl _, Int.le_refl _, Int.le_refl _, Int.le_refl _⟩
theorem cnt_find {s : St} {n : Int} (h : s.Cnt n) (k : Key) : (s.find k).Cnt (n + 1) := by
  obtain ⟨a0, b0, c0, d0, a1, b1, c1, d1⟩ := h
  unfold St.find
  split
  · exact ⟨a0, by show 0 ≤ s.m + 1; omega, c0, d0, by show s.h ≤ _; omega, by show s.m + 1 ≤ _; omega, by show s.e ≤ _; omega, by show s.r ≤ _; omega⟩
  · exact ⟨by show 0 ≤ s.h + 1; omega, b0, c0, d0, by show s.h + 1 ≤ _; omega, by show s.m ≤ _; omega, by show s.e ≤ _; omega, by show s.r ≤ _; omega⟩
theorem cnt_put {s : St} {n : Int} (h : s.Cnt n) (k : Key) (d : Dec) : (s.put k d).Cnt n := ⟨h.h0, h.m0, h.e0, h.r0, h.h1, h.m1, h.e1, h.r1⟩
theorem cnt_insert {s : St} {n : Int} (h : s.Cnt n) (k : Key) (d : Dec) : (s.insert k d).Cnt (n + 1) := by
  unfold St.insert
  split
  · exact h.mono (by omega)
  · split
    · exact (cnt_put h k d).mono (by omega)
    · split
      · refine cnt_put ?_ k d
        obtain ⟨a0, b0, c0, d0, a1, b1, c1, d1⟩ := h
        exact ⟨a0, b0, by show 0 ≤ s.e + 1; omega, d0, by show s.h ≤ _; omega, by show s.m ≤ _; omega, by show s.e + 1 ≤ _; omega, by show s.r ≤ _; omega⟩
      · exact (cnt_put h k d).mono (by omega)
theorem cnt_resets {s : St} {n : Int} (h : s.Cnt n) (q : Int) : (s.resets q).Cnt (n + 1) := by
  unfold St.resets
  split
  · exact h.mono (by omega)
  · obtain ⟨a0, b0, c0, d0, a1, b1, c1, d1⟩ := h
    exact ⟨a0, b0, c0, by show 0 ≤ s.r + 1; omega, by show s.h ≤ _; omega, by show s.m ≤ _; omega, by show s.e ≤ _; omega, by show s.r + 1 ≤ _; omega⟩
theorem cnt_play {s : St} {n : Int} (h : s.Cnt n) (o : Opn) : (s.play o).Cnt (n + 1) := by
  unfold St.play
  split
  · exact cnt_find h _
  · split
    · exact cnt_insert h _ _
    · exact cnt_resets h _

def St.plays (s : St) (l : List Opn) : St := l.foldl St.play s
theorem plays_snoc (s : St) {l : List Opn} {m : Nat} {y : Opn} (h : l[m]? = some y) : s.plays (l.take (m + 1)) = (s.plays (l.take m)).play y := by
  rw [take_snoc h]
  unfold St.plays
  rw [List.foldl_append]
  rfl

set_option maxRecDepth 100000 in
theorem copies_lo (w : World) (n : Int) (a a' : Option Addr) (c c' : Nat) (l l' : List Opn) (h : n < 1) : Calls Try.prog 8 #[.int .i64 n, .slice a l.length c, .slice a' l'.length c'] w fun e w' => e = .returned (.bool true) ∧ Below w.heap.size w w' := by
  go_enter Try.func8, Try.ntmps8
  go_wp2_with (go_at_call 10; go_must (refine (awake_any _).mono ?_; rintro e w9 ⟨rfl, hb⟩; have HB9 := Lib.hid hb; clear hb))
  go_ret
  exact ⟨rfl, HB9.out⟩

set_option maxRecDepth 100000 in
theorem copies_hi (w : World) (n : Int) (a a' : Option Addr) (c c' : Nat) (l l' : List Opn) (h0 : 1 ≤ n) (h : 20 < n) : Calls Try.prog 8 #[.int .i64 n, .slice a l.length c, .slice a' l'.length c'] w fun e w' => e = .returned (.bool true) ∧ Below w.heap.size w w' := by
  go_enter Try.func8, Try.ntmps8
  go_wp2_with (go_at_call 10; go_must (refine (awake_any _).mono ?_; rintro e w9 ⟨rfl, hb⟩; have HB9 := Lib.hid hb; clear hb))
  go_ret
  exact ⟨rfl, HB9.out⟩

set_option maxRecDepth 100000 in
theorem copies_l (w : World) (n : Int) (a a' : Option Addr) (c c' : Nat) (l l' : List Opn) (h0 : 1 ≤ n) (h1 : n ≤ 20) (h : 60 < l.length) : Calls Try.prog 8 #[.int .i64 n, .slice a l.length c, .slice a' l'.length c'] w fun e w' => e = .returned (.bool true) ∧ Below w.heap.size w w' := by
  have h' : (60 : Int) < (l.length : Int) := by omega
  clear h
  go_enter Try.func8, Try.ntmps8
  go_wp2_with (go_at_call 10; go_must (refine (awake_any _).mono ?_; rintro e w9 ⟨rfl, hb⟩; have HB9 := Lib.hid hb; clear hb))
  go_ret
  exact ⟨rfl, HB9.out⟩

set_option maxRecDepth 100000 in
theorem copies_m (w : World) (n : Int) (a a' : Option Addr) (c c' : Nat) (l l' : List Opn) (h0 : 1 ≤ n) (h1 : n ≤ 20) (h2 : l.length ≤ 60) (h : 60 < l'.length) : Calls Try.prog 8 #[.int .i64 n, .slice a l.length c, .slice a' l'.length c'] w fun e w' => e = .returned (.bool true) ∧ Below w.heap.size w w' := by
  have h' : (60 : Int) < (l'.length : Int) := by omega
  have h2' : (l.length : Int) ≤ 60 := by omega
  clear h h2
  go_enter Try.func8, Try.ntmps8
  go_wp2_with (go_at_call 10; go_must (refine (awake_any _).mono ?_; rintro e w9 ⟨rfl, hb⟩; have HB9 := Lib.hid hb; clear hb))
  go_ret
  exact ⟨rfl, HB9.out⟩

set_option maxRecDepth 100000 in
set_option maxHeartbeats 4000000 in
theorem copies_main (w : World) (n : Int) (a a' : Option Addr) (c c' : Nat) (l l' : List Opn) (h0 : 1 ≤ n) (h1 : n ≤ 20) (h2 : l.length ≤ 60) (h3 : l'.length ≤ 60) (hw : ∀ o ∈ l, o.Wf) (hw' : ∀ o ∈ l', o.Wf)
    (H1 : Hid (∀ i y, l[i]? = some y → ∃ b off, a = some ⟨b, off, none⟩ ∧ ∀ wr, Below w.heap.size w wr → wr.cell? ⟨b, off + i * 6, none⟩ = some (.int .u8 y.kind) ∧ wr.cell? ⟨b, off + i * 6 + 1, none⟩ = some (.int .i64 y.src) ∧ wr.cell? ⟨b, off + i * 6 + 2, none⟩ = some (.int .i64 y.tgt) ∧ wr.cell? ⟨b, off + i * 6 + 3, none⟩ = some (.int .i64 y.cls) ∧ wr.cell? ⟨b, off + i * 6 + 4, none⟩ = some (.int .u32 y.allowed) ∧ wr.cell? ⟨b, off + i * 6 + 5, none⟩ = some (.int .i64 y.seq)))
    (H2 : Hid (∀ i y, l'[i]? = some y → ∃ b off, a' = some ⟨b, off, none⟩ ∧ ∀ wr, Below w.heap.size w wr → wr.cell? ⟨b, off + i * 6, none⟩ = some (.int .u8 y.kind) ∧ wr.cell? ⟨b, off + i * 6 + 1, none⟩ = some (.int .i64 y.src) ∧ wr.cell? ⟨b, off + i * 6 + 2, none⟩ = some (.int .i64 y.tgt) ∧ wr.cell? ⟨b, off + i * 6 + 3, none⟩ = some (.int .i64 y.cls) ∧ wr.cell? ⟨b, off + i * 6 + 4, none⟩ = some (.int .u32 y.allowed) ∧ wr.cell? ⟨b, off + i * 6 + 5, none⟩ = some (.int .i64 y.seq))) :
    Calls Try.prog 8 #[.int .i64 n, .slice a l.length c, .slice a' l'.length c'] w fun e w' => e = .returned (.bool true) ∧ Below w.heap.size w w' := by
  have HW1 := Lib.hid hw
  have HW2 := Lib.hid hw'
  clear hw hw'
  have hl : (l.length : Int) ≤ 60 := by omega
  have hl' : (l'.length : Int) ≤ 60 := by omega
  have HM0 := Lib.hid (Many.start (X := (fun _ => False)) w w.heap.size (Nat.le_refl _) (fun _ h => h.elim))
  go_enter Try.func8, Try.ntmps8
  go_wp2_with fail
  refine (new_m n HM0.out h0 (by omega)).mono ?_
  rintro e w1 ⟨cb, rfl, hm, -⟩
  have HM1 := Lib.hid (show Many (fun _ => False) w.heap.size w w1 [(cb, fresh n)] from hm)
  clear hm
  go_wp2_with fail
  refine (new_m n HM1.out h0 (by omega)).mono ?_
  rintro e w2 ⟨db, rfl, hm, -⟩
  have HM2 := Lib.hid (show Many (fun _ => False) w.heap.size w w2 [(cb, fresh n), (db, fresh n)] from hm)
  clear hm
  go_wp2_with fail
  go_loopw [9] (fun i wr => ∃ m : Nat, m ≤ l.length ∧ i = .int .i64 m ∧ Many (fun _ => False) w.heap.size w wr [(cb, (fresh n).plays (l.take m)), (db, (fresh n).plays (l.take m))] ∧ ((fresh n).plays (l.take m)).Cnt (0 + m)) (fun i _ => l.length - (intOf i).toNat)
  case atStart => exact ⟨0, Nat.zero_le _, rfl, HM2.out, (cnt_fresh n).mono (by omega)⟩
  case round =>
    obtain ⟨m, hm, rfl, hM, hC⟩ := hrel
    have HM := Lib.hid hM
    have HC := Lib.hid hC
    clear hM hC
    by_cases hlt : m < l.length
    · obtain ⟨y, hy⟩ : ∃ y, l[m]? = some y := ⟨_, List.getElem?_eq_getElem hlt⟩
      obtain ⟨b, off, rfl, hcell⟩ := H1.out m y hy
      have HCE := Lib.hid hcell
      have HY := Lib.hid hy
      have HWY := Lib.hid (HW1.out y (List.mem_of_getElem? hy))
      clear hcell hy
      obtain ⟨k0, k1, k2, k3, k4, k5⟩ := HCE.out wr HM.out.below
      go_wp2_with fail
      refine (play_m (fun _ => False) _ w w.heap.size 0 _ cb ((fresh n).plays (l.take m)) y HM.out rfl (HC.out.mono (by omega)) HWY.out).mono ?_
      rintro e w5 ⟨rfl, hm5, -⟩
      have HM5 := Lib.hid hm5
      clear hm5 k0 k1 k2 k3 k4 k5
      obtain ⟨k0, k1, k2, k3, k4, k5⟩ := HCE.out w5 HM5.out.below
      go_wp2_with fail
      refine (play_m (fun _ => False) _ w w.heap.size 1 _ db ((fresh n).plays (l.take m)) y HM5.out rfl (HC.out.mono (by omega)) HWY.out).mono ?_
      rintro e w6 ⟨rfl, hm6, -⟩
      have HM6 := Lib.hid hm6
      clear hm6 k0 k1 k2 k3 k4 k5
      go_wp2_with fail
      go_roundw
      case rel => exact ⟨m + 1, by omega, by go_num, by rw [plays_snoc _ HY.out]; exact HM6.out, by rw [plays_snoc _ HY.out]; exact (cnt_play HC.out y).mono (by omega)⟩
      case measure => simp [intOf]; omega
    · obtain rfl : m = l.length := by omega
      rw [List.take_length] at HM HC
      have HC1 := Lib.hid (HC.out.mono (show _ ≤ (60 : Int) by omega))
      go_wp2_with fail
      refine (copy_m 0 HM.out rfl).mono ?_
      rintro e w3 ⟨kb, rfl, hm, -⟩
      have HM3 := Lib.hid (show Many (fun _ => False) w.heap.size w w3 [(cb, (fresh n).plays l), (db, (fresh n).plays l), (kb, (fresh n).plays l)] from hm)
      clear hm
      go_wp2_with fail
      go_loopw [11] (fun i wr => ∃ m : Nat, m ≤ l'.length ∧ i = .int .i64 m ∧ Many (fun _ => False) w.heap.size w wr [(cb, (fresh n).plays l), (db, (fresh n).plays l), (kb, ((fresh n).plays l).plays (l'.take m))] ∧ (((fresh n).plays l).plays (l'.take m)).Cnt (60 + m)) (fun i _ => l'.length - (intOf i).toNat)
      case atStart => exact ⟨0, Nat.zero_le _, rfl, HM3.out, HC1.out.mono (by omega)⟩
      case round =>
        obtain ⟨m, hm, rfl, hM, hC⟩ := hrel
        have HM := Lib.hid hM
        have HC := Lib.hid hC
        clear hM hC
        by_cases hlt : m < l'.length
        · obtain ⟨y, hy⟩ : ∃ y, l'[m]? = some y := ⟨_, List.getElem?_eq_getElem hlt⟩
          obtain ⟨b, off, rfl, hcell⟩ := H2.out m y hy
          have HCE := Lib.hid hcell
          have HY := Lib.hid hy
          have HWY := Lib.hid (HW2.out y (List.mem_of_getElem? hy))
          clear hcell hy
          obtain ⟨k0, k1, k2, k3, k4, k5⟩ := HCE.out wr HM.out.below
          go_wp2_with fail
          refine (play_m (fun _ => False) _ w w.heap.size 2 _ kb (((fresh n).plays l).plays (l'.take m)) y HM.out rfl (HC.out.mono (by omega)) HWY.out).mono ?_
          rintro e w5 ⟨rfl, hm5, -⟩
          have HM5 := Lib.hid hm5
          clear hm5 k0 k1 k2 k3 k4 k5
          go_wp2_with fail
          go_roundw
          case rel => exact ⟨m + 1, by omega, by go_num, by rw [plays_snoc _ HY.out]; exact HM5.out, by rw [plays_snoc _ HY.out]; exact (cnt_play HC.out y).mono (by omega)⟩
          case measure => simp [intOf]; omega
        · obtain rfl : m = l'.length := by omega
          rw [List.take_length] at HM HC
          go_wp2_with (first | (go_at_call_of 16 (Value.pointer (some ⟨cb, 0, none⟩)); go_must (refine (keys_m 0 HM.out rfl).mono ?_; rintro e w6 ⟨v6, rfl, hk, -, hm, hb⟩; have HK6 := Lib.hid hk; have HM6 := Lib.hid hm; have HB6 := Lib.hid hb; clear hk hm hb)) | (go_at_call_of 16 (Value.pointer (some ⟨db, 0, none⟩)); go_must (refine (keys_m 1 HM6.out rfl).mono ?_; rintro e w7 ⟨v7, rfl, hk, -, hm, hb⟩; have HK7 := Lib.hid hk; have HM7 := Lib.hid hm; have HB7 := Lib.hid hb; clear hk hm hb)) | (go_at_call 25; go_must (refine (same_keys _ v6 v7 ((fresh n).plays l).keys (HK6.out.under HB7.out) HK7.out).mono ?_; rintro e w8 ⟨rfl, hb⟩; have HM8 := Lib.hid (HM7.out.under hb); clear hb)) | (go_at_call_of 20 (Value.pointer (some ⟨cb, 0, none⟩)); go_must (refine (seq_m 0 HM8.out rfl).mono ?_; rintro e w' ⟨rfl, rfl⟩)) | (go_at_call_of 20 (Value.pointer (some ⟨db, 0, none⟩)); go_must (refine (seq_m 1 HM8.out rfl).mono ?_; rintro e w' ⟨rfl, rfl⟩)))
          go_loopw [12] (fun i wr => ∃ m : Nat, m ≤ l'.length ∧ i = .int .i64 m ∧ Many (fun _ => False) w.heap.size w wr [(cb, ((fresh n).plays l).plays (l'.take m)), (db, (fresh n).plays l), (kb, ((fresh n).plays l).plays l')] ∧ (((fresh n).plays l).plays (l'.take m)).Cnt (60 + m)) (fun i _ => l'.length - (intOf i).toNat)
          case atStart => exact ⟨0, Nat.zero_le _, rfl, HM8.out, HC1.out.mono (by omega)⟩
          case round =>
            obtain ⟨m, hm, rfl, hM, hC⟩ := hrel
            have HM := Lib.hid hM
            have HC := Lib.hid hC
            clear hM hC
            by_cases hlt : m < l'.length
            · obtain ⟨y, hy⟩ : ∃ y, l'[m]? = some y := ⟨_, List.getElem?_eq_getElem hlt⟩
              obtain ⟨b, off, rfl, hcell⟩ := H2.out m y hy
              have HCE := Lib.hid hcell
              have HY := Lib.hid hy
              have HWY := Lib.hid (HW2.out y (List.mem_of_getElem? hy))
              clear hcell hy
              obtain ⟨k0, k1, k2, k3, k4, k5⟩ := HCE.out wr HM.out.below
              go_wp2_with fail
              refine (play_m (fun _ => False) _ w w.heap.size 0 _ cb (((fresh n).plays l).plays (l'.take m)) y HM.out rfl (HC.out.mono (by omega)) HWY.out).mono ?_
              rintro e w5 ⟨rfl, hm5, -⟩
              have HM5 := Lib.hid hm5
              clear hm5 k0 k1 k2 k3 k4 k5
              go_wp2_with fail
              go_roundw
              case rel => exact ⟨m + 1, by omega, by go_num, by rw [plays_snoc _ HY.out]; exact HM5.out, by rw [plays_snoc _ HY.out]; exact (cnt_play HC.out y).mono (by omega)⟩
              case measure => simp [intOf]; omega
            · obtain rfl : m = l'.length := by omega
              rw [List.take_length] at HM HC
              go_wp2_with (first | (go_at_call_of 18 (Value.pointer (some ⟨cb, 0, none⟩)); go_must (refine (stats_m 0 HM.out rfl).mono ?_; rintro e w10 ⟨rfl, hm, -⟩; have HM10 := Lib.hid hm; clear hm)) | (go_at_call_of 18 (Value.pointer (some ⟨kb, 0, none⟩)); go_must (refine (stats_m 2 HM10.out rfl).mono ?_; rintro e w11 ⟨rfl, hm, -⟩; have HM11 := Lib.hid hm; clear hm)) | (go_at_call_of 16 (Value.pointer (some ⟨cb, 0, none⟩)); go_must (refine (keys_m 0 HM11.out rfl).mono ?_; rintro e w12 ⟨v12, rfl, hk, -, hm, hb⟩; have HK12 := Lib.hid hk; have HM12 := Lib.hid hm; have HB12 := Lib.hid hb; clear hk hm hb)) | (go_at_call_of 16 (Value.pointer (some ⟨kb, 0, none⟩)); go_must (refine (keys_m 2 HM12.out rfl).mono ?_; rintro e w13 ⟨v13, rfl, hk, -, hm, hb⟩; have HK13 := Lib.hid hk; have HM13 := Lib.hid hm; have HB13 := Lib.hid hb; clear hk hm hb)) | (go_at_call 25; go_must (refine (same_keys _ v12 v13 (((fresh n).plays l).plays l').keys (HK12.out.under HB13.out) HK13.out).mono ?_; rintro e w14 ⟨rfl, hb⟩; have HM14 := Lib.hid (HM13.out.under hb); clear hb)) | (go_at_call_of 20 (Value.pointer (some ⟨cb, 0, none⟩)); go_must (refine (seq_m 0 HM14.out rfl).mono ?_; rintro e w' ⟨rfl, rfl⟩)) | (go_at_call_of 20 (Value.pointer (some ⟨kb, 0, none⟩)); go_must (refine (seq_m 2 HM14.out rfl).mono ?_; rintro e w' ⟨rfl, rfl⟩)) | (go_at_call 10; go_must (refine (awake_any _).mono ?_; rintro e w15 ⟨rfl, hb⟩; have HM15 := Lib.hid (HM14.out.under hb); clear hb)))
              go_ret
              exact ⟨rfl, HM15.out.below⟩

theorem cacheCopies_any (w : World) (n : Int) (v v' : Value) (l l' : List Opn) (hl : OpsAt w v l) (hl' : OpsAt w v' l') (hw : ∀ o ∈ l, o.Wf) (hw' : ∀ o ∈ l', o.Wf) :
    Calls Try.prog 8 #[.int .i64 n, v, v'] w fun e w' => e = .returned (.bool true) ∧ Below w.heap.size w w' := by
  obtain ⟨a, c, rfl, -, hm, H1⟩ := ops_form hl
  obtain ⟨a', c', rfl, -, hm', H2⟩ := ops_form hl'
  by_cases h0 : n < 1
  · exact copies_lo w n a a' c c' l l' h0
  by_cases h1 : 20 < n
  · exact copies_hi w n a a' c c' l l' (by omega) h1
  by_cases h2 : 60 < l.length
  · exact copies_l w n a a' c c' l l' (by omega) (by omega) h2
  by_cases h3 : 60 < l'.length
  · exact copies_m w n a a' c c' l l' (by omega) (by omega) (by omega) h3
  exact copies_main w n a a' c c' l l' (by omega) (by omega) (by omega) (by omega) hw hw' H1 H2

end Go.Proofs.Ytcdhjcjdphnleaa
