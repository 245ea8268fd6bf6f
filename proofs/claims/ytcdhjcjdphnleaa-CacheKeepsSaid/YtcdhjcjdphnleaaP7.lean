import Derived.Test.YtcdhjcjdphnleaaYK
namespace Go.Proofs.Ytcdhjcjdphnleaa
open Go Go.WideMaps Go.RowKit

theorem sto_new {w w' : World} {o : Obj} (h : Sto (w.alloc o) w' w.heap.size) : Below w.heap.size w w' := ((Below.refl _ w).alloc (Nat.le_refl _) _).trans (h.below (Nat.le_refl _))
theorem kM_ok : kM.ok := ⟨wf64 _ (by decide) (by decide), wf64 _ (by decide) (by decide), wf64 _ (by decide) (by decide)⟩
theorem kI_ok (m : Nat) (h : m ≤ 1000) : (kI m).ok := ⟨wf64 _ (by show _ ≤ (m : Int); omega) (by show (m : Int) ≤ _; omega), wf64 _ (by show _ ≤ 2 * (m : Int); omega) (by show 2 * (m : Int) ≤ _; omega), wf64 _ (by show _ ≤ 3 * (m : Int); omega) (by show 3 * (m : Int) ≤ _; omega)⟩

section
variable {B : Nat} {w0 w : World} {cb : Nat} {s : St} {p m : Nat}
theorem keeps_find (h : Many (fun _ => False) B w0 w [(cb, s)]) (hk : KI p m s) (hm : m ≤ 100) : Calls Try.prog 21 #[.pointer (some ⟨cb, 0, none⟩), .int .i64 (-1), .int .i64 (-1), .int .i64 (-1)] w fun e w' => e = .returned (.tuple #[.agg #[.int .u32 7, .int .u32 0, .int .u32 0, .bool false, .int .i64 0], .bool true]) ∧ Many (fun _ => False) B w0 w' [(cb, s.find kM)] := by
  refine (find_m 0 kM h rfl (hk.cnt.mono (by omega)) kM_ok).mono ?_
  rintro e w' ⟨rfl, hm, -⟩
  have e1 : s.dec kM = dM := by unfold St.dec; rw [hk.get]; rfl
  have e2 : s.has kM = true := by unfold St.has; rw [hk.get]; rfl
  rw [e1, e2]
  exact ⟨rfl, hm⟩
theorem keeps_insert (h : Many (fun _ => False) B w0 w [(cb, s.find kM)]) (hk : KI p m s) (hm : m ≤ 100) : Calls Try.prog 22 #[.pointer (some ⟨cb, 0, none⟩), .int .i64 m, .int .i64 (2 * m), .int .i64 (3 * m), .agg #[.int .u32 m, .int .u32 0, .int .u32 0, .bool false, .int .i64 0]] w fun e w' => e = .returned (.int .i64 0) ∧ Many (fun _ => False) B w0 w' [(cb, (s.find kM).insert (kI m) (dI m))] := by
  refine (insert_m 0 (kI m) (dI m) h rfl ((cnt_find hk.cnt kM).mono (by omega)) (kI_ok m (by omega))).mono ?_
  rintro e w' ⟨rfl, hm, -⟩
  rw [ki_insErr hk]
  exact ⟨rfl, hm⟩
theorem keeps_first (h : Many (fun _ => False) B w0 w [(cb, fresh p)]) (hp : 2 ≤ p) : Calls Try.prog 22 #[.pointer (some ⟨cb, 0, none⟩), .int .i64 (-1), .int .i64 (-1), .int .i64 (-1), .agg #[.int .u32 7, .int .u32 0, .int .u32 0, .bool false, .int .i64 0]] w fun e w' => e = .returned (.int .i64 0) ∧ ∃ s, Many (fun _ => False) B w0 w' [(cb, s)] ∧ KI p 0 s := by
  refine (insert_m 0 kM dM h rfl ((cnt_fresh p).mono (by omega)) kM_ok).mono ?_
  rintro e w' ⟨rfl, hm, -⟩
  exact ⟨rfl, _, hm, ki_start p hp⟩
theorem keeps_look (kb i : Nat) (h : Many (fun _ => False) B w0 w [(cb, s), (kb, s)]) (hk : KI p m s) (hm : m ≤ 100) (hi : i ≤ 100) (d : Dec) (b : Bool) (hd : (if m ≤ i + min m (p - 1) ∧ i < m then dI i else Dec.none) = d) (hb : decide (m ≤ i + min m (p - 1) ∧ i < m) = b) :
    Calls Try.prog 21 #[.pointer (some ⟨kb, 0, none⟩), .int .i64 i, .int .i64 (2 * i), .int .i64 (3 * i)] w fun e w' => e = .returned (.tuple #[.agg d.cells, .bool b]) ∧ Many (fun _ => False) B w0 w' [(cb, s)] := by
  refine (find_m 1 (kI i) h rfl (hk.cnt.mono (by omega)) (kI_ok i (by omega))).mono ?_
  rintro e w' ⟨rfl, hm, -⟩
  have e1 : s.dec (kI i) = d := by
    unfold St.dec
    rw [ki_get hk, ← hd]
    split <;> rfl
  have e2 : s.has (kI i) = b := by
    unfold St.has
    rw [ki_get hk, ← hb]
    split
    · rename_i h; simp [h]
    · rename_i h; simp [h]
  rw [e1, e2]
  exact ⟨rfl, hm.take fun j x hx => by
    cases j with
    | zero => exact hx
    | succ j => simp at hx⟩
end

set_option maxRecDepth 100000 in
theorem keeps_lo (w : World) (n k : Int) (h : n < 2) : Calls Try.prog 7 #[.int .i64 n, .int .u8 k] w fun e w' => e = .returned (.bool true) ∧ Below w.heap.size w w' := by
  go_enter Try.func7, Try.ntmps7
  go_wp2_with (go_at_call 10; go_must (refine (awake_any _).mono ?_; rintro e w9 ⟨rfl, hb⟩; have HB9 := Lib.hid hb; clear hb))
  go_ret
  exact ⟨rfl, HB9.out⟩

set_option maxRecDepth 100000 in
theorem keeps_hi (w : World) (n k : Int) (h0 : 2 ≤ n) (h : 20 < n) : Calls Try.prog 7 #[.int .i64 n, .int .u8 k] w fun e w' => e = .returned (.bool true) ∧ Below w.heap.size w w' := by
  go_enter Try.func7, Try.ntmps7
  go_wp2_with (go_at_call 10; go_must (refine (awake_any _).mono ?_; rintro e w9 ⟨rfl, hb⟩; have HB9 := Lib.hid hb; clear hb))
  go_ret
  exact ⟨rfl, HB9.out⟩

set_option maxRecDepth 100000 in
set_option maxHeartbeats 4000000 in
theorem keeps_main (w : World) (n k : Int) (p M : Nat) (h0 : 2 ≤ n) (h1 : n ≤ 20) (hk0 : 0 ≤ k) (hk1 : k ≤ 255) (hp : n = p) (hM : M ≤ 60) (hmod : k % 61 = (M : Int)) : Calls Try.prog 7 #[.int .i64 n, .int .u8 k] w fun e w' => e = .returned (.bool true) ∧ Below w.heap.size w w' := by
  have HP := Lib.hid hp
  have HMM := Lib.hid (show M ≤ 100 by omega)
  clear hp
  have HM0 := Lib.hid (Many.start (X := fun _ => False) w w.heap.size (Nat.le_refl _) (fun _ h => h.elim))
  go_enter Try.func7, Try.ntmps7
  go_wp2_with fail
  refine (new_m n HM0.out (by omega) (by omega)).mono ?_
  rintro e w1 ⟨cb, rfl, hm, -⟩
  have HM1 := Lib.hid (show Many (fun _ => False) w.heap.size w w1 [(cb, fresh p)] by rw [← HP.out]; exact hm)
  clear hm
  go_wp2_with fail
  refine (keeps_first HM1.out (by have := HP.out; omega)).mono ?_
  rintro e w2 ⟨rfl, s0, hm, hki⟩
  have HM2 := Lib.hid hm
  have HK2 := Lib.hid hki
  clear hm hki
  go_wp2_with fail
  simp only [hmod]
  clear hmod
  go_loopw [7] (fun i wr => ∃ (m : Nat) (s : St), m ≤ M ∧ i = .int .i64 m ∧ Many (fun _ => False) w.heap.size w wr [(cb, s)] ∧ KI p m s) (fun i _ => M - (intOf i).toNat)
  case atStart => exact ⟨0, s0, Nat.zero_le _, rfl, HM2.out, HK2.out⟩
  case round =>
    obtain ⟨m, s, hm, rfl, hMa, hKI⟩ := hrel
    have HM := Lib.hid hMa
    have HKI := Lib.hid hKI
    clear hMa hKI
    by_cases hlt : m < M
    · go_wp2_with fail
      refine (keeps_find HM.out HKI.out (by omega)).mono ?_
      rintro e w3 ⟨rfl, hm3⟩
      have HM3 := Lib.hid hm3
      clear hm3
      go_wp2_with (refine wpList_store_blk rfl 46 _ _ rfl w3.heap.size 0 (.agg #[.int .u32 7, .int .u32 0, .int .u32 0, .bool false, .int .i64 0]) rfl rfl 46 _ (Whole.new w3 46 _) (by simp [Value.cells]) size46 rfl ?_; intro w4 S4 W4; have HS4 := Lib.hid S4; have HW4 := Lib.hid (show Whole w4 w3.heap.size 46 #[.int .u32 7, .int .u32 0, .int .u32 0, .bool false, .int .i64 0] from W4); clear S4 W4; have a0 : w4.cell? ⟨w3.heap.size, 0, none⟩ = some (.int .u32 7) := HW4.out.cell 0)
      have HM4 := Lib.hid (HM3.out.under (sto_new HS4.out))
      refine (keeps_insert HM4.out HKI.out (by omega)).mono ?_
      rintro e w5 ⟨rfl, hm5⟩
      have HM5 := Lib.hid hm5
      clear hm5 a0
      go_wp2_with fail
      go_roundw
      case rel => exact ⟨m + 1, _, by omega, by go_num, HM5.out, ki_next (by have := HP.out; omega) HKI.out⟩
      case measure => simp [intOf]; omega
    · obtain rfl : m = M := by omega
      clear HM2 HK2 hlt
      go_wp2_with fail
      go_loopw [10] (fun i wr' => ∃ j : Nat, j ≤ m ∧ i = .int .i64 j ∧ Many (fun _ => False) w.heap.size w wr' [(cb, s)]) (fun i _ => m - (intOf i).toNat)
      case atStart => exact ⟨0, Nat.zero_le _, rfl, HM.out⟩
      case round =>
        obtain ⟨j, hj, rfl, hMb⟩ := hrel
        clear HM
        have HM := Lib.hid hMb
        clear hMb
        by_cases hlt : j < m
        · by_cases hin : m ≤ j + min m (p - 1)
          · have HD := Lib.hid (show (if m ≤ j + min m (p - 1) ∧ j < m then dI j else Dec.none) = dI j from if_pos ⟨hin, hlt⟩)
            have HDB := Lib.hid (show decide (m ≤ j + min m (p - 1) ∧ j < m) = true from decide_eq_true ⟨hin, hlt⟩)
            have hcmp : (m : Int) - n < (j : Int) := by have := HP.out; omega
            clear hin
            go_wp2_with fail
            refine (copy_m 0 HM.out rfl).mono ?_
            rintro e w3 ⟨kb, rfl, hm3, -⟩
            have HM3 := Lib.hid (show Many (fun _ => False) w.heap.size w w3 [(cb, s), (kb, s)] from hm3)
            clear hm3
            go_wp2_with fail
            refine (keeps_look kb j HM3.out HKI.out HMM.out (by have := HMM.out; omega) (dI j) true HD.out HDB.out).mono ?_
            rintro e w4 ⟨rfl, hm4⟩
            have HM4 := Lib.hid hm4
            clear hm4
            go_wp2_with (refine wpList_store_blk rfl 46 _ _ rfl w4.heap.size 0 (.agg #[.int .u32 j, .int .u32 0, .int .u32 0, .bool false, .int .i64 0]) rfl rfl 46 _ (Whole.new w4 46 _) (by simp [Value.cells]) size46 rfl ?_; intro w5 S5 W5; have HS5 := Lib.hid S5; have HW5 := Lib.hid (show Whole w5 w4.heap.size 46 #[.int .u32 j, .int .u32 0, .int .u32 0, .bool false, .int .i64 0] from W5); clear S5 W5; have a0 : w5.cell? ⟨w4.heap.size, 0, none⟩ = some (.int .u32 j) := HW5.out.cell 0)
            have HM5 := Lib.hid (HM4.out.under (sto_new HS5.out))
            clear a0
            go_roundw
            case rel => exact ⟨j + 1, by omega, by go_num, HM5.out⟩
            case measure => simp [intOf]; omega
          · have HD := Lib.hid (show (if m ≤ j + min m (p - 1) ∧ j < m then dI j else Dec.none) = Dec.none from if_neg (fun h => hin h.1))
            have HDB := Lib.hid (show decide (m ≤ j + min m (p - 1) ∧ j < m) = false from decide_eq_false (fun h => hin h.1))
            have hcmp : ¬ (m : Int) - n < (j : Int) := by have := HP.out; omega
            clear hin
            go_wp2_with fail
            refine (copy_m 0 HM.out rfl).mono ?_
            rintro e w3 ⟨kb, rfl, hm3, -⟩
            have HM3 := Lib.hid (show Many (fun _ => False) w.heap.size w w3 [(cb, s), (kb, s)] from hm3)
            clear hm3
            go_wp2_with fail
            refine (keeps_look kb j HM3.out HKI.out HMM.out (by have := HMM.out; omega) Dec.none false HD.out HDB.out).mono ?_
            rintro e w4 ⟨rfl, hm4⟩
            have HM4 := Lib.hid hm4
            clear hm4
            go_wp2_with (refine wpList_store_blk rfl 46 _ _ rfl w4.heap.size 0 (.agg #[.int .u32 0, .int .u32 0, .int .u32 0, .bool false, .int .i64 0]) rfl rfl 46 _ (Whole.new w4 46 _) (by simp [Value.cells]) size46 rfl ?_; intro w5 S5 W5; have HS5 := Lib.hid S5; have HW5 := Lib.hid (show Whole w5 w4.heap.size 46 #[.int .u32 0, .int .u32 0, .int .u32 0, .bool false, .int .i64 0] from W5); clear S5 W5; have a0 : w5.cell? ⟨w4.heap.size, 0, none⟩ = some (.int .u32 0) := HW5.out.cell 0)
            have HM5 := Lib.hid (HM4.out.under (sto_new HS5.out))
            clear a0
            go_roundw
            case rel => exact ⟨j + 1, by omega, by go_num, HM5.out⟩
            case measure => simp [intOf]; omega
        · obtain rfl : j = m := by omega
          have HLN := Lib.hid (ki_len HKI.out (HM.out.ok (j := 0) rfl))
          go_wp2_with fail
          refine (len_m 0 HM.out rfl).mono ?_
          rintro e w' ⟨rfl, rfl⟩
          have hlen : (s.D.length : Int) = min ((j : Int) + 1) n := by have h1 := HLN.out; have h2 := HP.out; rw [h1]; omega
          go_wp2_with (go_at_call 10; go_must (refine (awake_any _).mono ?_; rintro e w9 ⟨rfl, hb⟩; have HM9 := Lib.hid (HM.out.under hb); clear hb))
          go_ret
          exact ⟨rfl, HM9.out.below⟩

theorem cacheKeeps_any (w : World) (n k : Int) (hk0 : 0 ≤ k) (hk1 : k ≤ 255) : Calls Try.prog 7 #[.int .i64 n, .int .u8 k] w fun e w' => e = .returned (.bool true) ∧ Below w.heap.size w w' := by
  by_cases h0 : n < 2
  · exact keeps_lo w n k h0
  by_cases h1 : 20 < n
  · exact keeps_hi w n k (by omega) h1
  exact keeps_main w n k n.toNat (k % 61).toNat (by omega) (by omega) hk0 hk1 (by omega) (by omega) (by omega)

end Go.Proofs.Ytcdhjcjdphnleaa
