import Derived.Test.YtcdhjcjdphnleaaYA
namespace Go.Proofs.Ytcdhjcjdphnleaa
open Go Go.WideMaps Go.RowKit

section
variable {X : Nat → Prop} {B : Nat} {w0 w : World} {cb : Nat}
theorem wf64 (n : Int) (h1 : -9223372036854775808 ≤ n) (h2 : n ≤ 9223372036854775807) : (Lit.int .i64 n).wf = true := by
  have a1 : IntKind.i64.min = -9223372036854775808 := by decide
  have a2 : IntKind.i64.max = 9223372036854775807 := by decide
  simp only [Lit.wf, a1, a2]
  simp [h1, h2]
theorem key_ok (n : Int) (h : -100 ≤ n ∧ n ≤ 100) : (⟨n, n, n⟩ : Key).ok := by
  have : (Lit.int .i64 n).wf = true := wf64 n (by omega) (by omega)
  exact ⟨this, this, this⟩
def aw0 : St := fresh 2
def aw1 : St := ⟨2, 0, [((⟨1, 1, 1⟩ : Key), (⟨1, 0, 0, false, 0⟩ : Dec))], 0, 0, 0, 0⟩
def aw2 : St := ⟨2, 0, [((⟨2, 2, 2⟩ : Key), (⟨2, 0, 0, false, 0⟩ : Dec)), ((⟨1, 1, 1⟩ : Key), (⟨1, 0, 0, false, 0⟩ : Dec))], 0, 0, 0, 0⟩
def aw3 : St := ⟨2, 0, [((⟨1, 1, 1⟩ : Key), (⟨1, 0, 0, false, 0⟩ : Dec)), ((⟨2, 2, 2⟩ : Key), (⟨2, 0, 0, false, 0⟩ : Dec))], 1, 0, 0, 0⟩
def aw4 : St := ⟨2, 0, [((⟨3, 3, 3⟩ : Key), (⟨3, 0, 0, false, 0⟩ : Dec)), ((⟨1, 1, 1⟩ : Key), (⟨1, 0, 0, false, 0⟩ : Dec))], 1, 0, 1, 0⟩
def aw5 : St := ⟨2, 0, [((⟨3, 3, 3⟩ : Key), (⟨3, 0, 0, false, 0⟩ : Dec)), ((⟨1, 1, 1⟩ : Key), (⟨1, 0, 0, false, 0⟩ : Dec))], 1, 1, 1, 0⟩
def aw6 : St := ⟨2, 5, [], 1, 1, 1, 1⟩
theorem cnt0 : aw0.Cnt 1000000 := ⟨of_decide_eq_true rfl, of_decide_eq_true rfl, of_decide_eq_true rfl, of_decide_eq_true rfl, of_decide_eq_true rfl, of_decide_eq_true rfl, of_decide_eq_true rfl, of_decide_eq_true rfl⟩
theorem cnt1 : aw1.Cnt 1000000 := ⟨of_decide_eq_true rfl, of_decide_eq_true rfl, of_decide_eq_true rfl, of_decide_eq_true rfl, of_decide_eq_true rfl, of_decide_eq_true rfl, of_decide_eq_true rfl, of_decide_eq_true rfl⟩
theorem cnt2 : aw2.Cnt 1000000 := ⟨of_decide_eq_true rfl, of_decide_eq_true rfl, of_decide_eq_true rfl, of_decide_eq_true rfl, of_decide_eq_true rfl, of_decide_eq_true rfl, of_decide_eq_true rfl, of_decide_eq_true rfl⟩
theorem cnt3 : aw3.Cnt 1000000 := ⟨of_decide_eq_true rfl, of_decide_eq_true rfl, of_decide_eq_true rfl, of_decide_eq_true rfl, of_decide_eq_true rfl, of_decide_eq_true rfl, of_decide_eq_true rfl, of_decide_eq_true rfl⟩
theorem cnt4 : aw4.Cnt 1000000 := ⟨of_decide_eq_true rfl, of_decide_eq_true rfl, of_decide_eq_true rfl, of_decide_eq_true rfl, of_decide_eq_true rfl, of_decide_eq_true rfl, of_decide_eq_true rfl, of_decide_eq_true rfl⟩
theorem cnt5 : aw5.Cnt 1000000 := ⟨of_decide_eq_true rfl, of_decide_eq_true rfl, of_decide_eq_true rfl, of_decide_eq_true rfl, of_decide_eq_true rfl, of_decide_eq_true rfl, of_decide_eq_true rfl, of_decide_eq_true rfl⟩
theorem cnt6 : aw6.Cnt 1000000 := ⟨of_decide_eq_true rfl, of_decide_eq_true rfl, of_decide_eq_true rfl, of_decide_eq_true rfl, of_decide_eq_true rfl, of_decide_eq_true rfl, of_decide_eq_true rfl, of_decide_eq_true rfl⟩
theorem ins0_1_0 (h : Many X B w0 w [(cb, aw0)]) : Calls Try.prog 22 #[.pointer (some ⟨cb, 0, none⟩), .int .i64 1, .int .i64 1, .int .i64 1, .agg #[.int .u32 1, .int .u32 0, .int .u32 0, .bool false, .int .i64 0]] w fun e w' => e = .returned (.int .i64 0) ∧ Many X B w0 w' [(cb, aw1)] ∧ Aft X w w' := by
  refine (insert_m 0 (⟨1, 1, 1⟩ : Key) (⟨1, 0, 0, false, 0⟩ : Dec) h rfl cnt0 (key_ok 1 (by decide))).mono ?_
  rintro e w' ⟨rfl, hm, ha⟩
  have e1 : aw0.insErr (⟨1, 0, 0, false, 0⟩ : Dec) = 0 := by kernel_rfl
  have e2 : aw0.insert (⟨1, 1, 1⟩ : Key) (⟨1, 0, 0, false, 0⟩ : Dec) = aw1 := by kernel_rfl
  rw [e2] at hm
  rw [e1]
  exact ⟨rfl, hm, ha⟩
theorem ins1_2_0 (h : Many X B w0 w [(cb, aw1)]) : Calls Try.prog 22 #[.pointer (some ⟨cb, 0, none⟩), .int .i64 2, .int .i64 2, .int .i64 2, .agg #[.int .u32 2, .int .u32 0, .int .u32 0, .bool false, .int .i64 0]] w fun e w' => e = .returned (.int .i64 0) ∧ Many X B w0 w' [(cb, aw2)] ∧ Aft X w w' := by
  refine (insert_m 0 (⟨2, 2, 2⟩ : Key) (⟨2, 0, 0, false, 0⟩ : Dec) h rfl cnt1 (key_ok 2 (by decide))).mono ?_
  rintro e w' ⟨rfl, hm, ha⟩
  have e1 : aw1.insErr (⟨2, 0, 0, false, 0⟩ : Dec) = 0 := by kernel_rfl
  have e2 : aw1.insert (⟨2, 2, 2⟩ : Key) (⟨2, 0, 0, false, 0⟩ : Dec) = aw2 := by kernel_rfl
  rw [e2] at hm
  rw [e1]
  exact ⟨rfl, hm, ha⟩
theorem fnd2_1 (h : Many X B w0 w [(cb, aw2)]) : Calls Try.prog 21 #[.pointer (some ⟨cb, 0, none⟩), .int .i64 1, .int .i64 1, .int .i64 1] w fun e w' => e = .returned (.tuple #[.agg #[.int .u32 1, .int .u32 0, .int .u32 0, .bool false, .int .i64 0], .bool true]) ∧ Many X B w0 w' [(cb, aw3)] ∧ Aft X w w' := by
  refine (find_m 0 (⟨1, 1, 1⟩ : Key) h rfl cnt2 (key_ok 1 (by decide))).mono ?_
  rintro e w' ⟨rfl, hm, ha⟩
  have e1 : aw2.dec (⟨1, 1, 1⟩ : Key) = (⟨1, 0, 0, false, 0⟩ : Dec) := by kernel_rfl
  have e3 : aw2.has (⟨1, 1, 1⟩ : Key) = true := by kernel_rfl
  have e2 : aw2.find (⟨1, 1, 1⟩ : Key) = aw3 := by kernel_rfl
  rw [e2] at hm
  rw [e1, e3]
  exact ⟨rfl, hm, ha⟩
theorem ins3_3_0 (h : Many X B w0 w [(cb, aw3)]) : Calls Try.prog 22 #[.pointer (some ⟨cb, 0, none⟩), .int .i64 3, .int .i64 3, .int .i64 3, .agg #[.int .u32 3, .int .u32 0, .int .u32 0, .bool false, .int .i64 0]] w fun e w' => e = .returned (.int .i64 0) ∧ Many X B w0 w' [(cb, aw4)] ∧ Aft X w w' := by
  refine (insert_m 0 (⟨3, 3, 3⟩ : Key) (⟨3, 0, 0, false, 0⟩ : Dec) h rfl cnt3 (key_ok 3 (by decide))).mono ?_
  rintro e w' ⟨rfl, hm, ha⟩
  have e1 : aw3.insErr (⟨3, 0, 0, false, 0⟩ : Dec) = 0 := by kernel_rfl
  have e2 : aw3.insert (⟨3, 3, 3⟩ : Key) (⟨3, 0, 0, false, 0⟩ : Dec) = aw4 := by kernel_rfl
  rw [e2] at hm
  rw [e1]
  exact ⟨rfl, hm, ha⟩
theorem fnd4_2 (h : Many X B w0 w [(cb, aw4)]) : Calls Try.prog 21 #[.pointer (some ⟨cb, 0, none⟩), .int .i64 2, .int .i64 2, .int .i64 2] w fun e w' => e = .returned (.tuple #[.agg #[.int .u32 0, .int .u32 0, .int .u32 0, .bool false, .int .i64 0], .bool false]) ∧ Many X B w0 w' [(cb, aw5)] ∧ Aft X w w' := by
  refine (find_m 0 (⟨2, 2, 2⟩ : Key) h rfl cnt4 (key_ok 2 (by decide))).mono ?_
  rintro e w' ⟨rfl, hm, ha⟩
  have e1 : aw4.dec (⟨2, 2, 2⟩ : Key) = (⟨0, 0, 0, false, 0⟩ : Dec) := by kernel_rfl
  have e3 : aw4.has (⟨2, 2, 2⟩ : Key) = false := by kernel_rfl
  have e2 : aw4.find (⟨2, 2, 2⟩ : Key) = aw5 := by kernel_rfl
  rw [e2] at hm
  rw [e1, e3]
  exact ⟨rfl, hm, ha⟩
theorem rst5_5 (h : Many X B w0 w [(cb, aw5)]) : Calls Try.prog 26 #[.pointer (some ⟨cb, 0, none⟩), .int .i64 5] w fun e w' => e = .returned (.int .i64 0) ∧ Many X B w0 w' [(cb, aw6)] ∧ Aft X w w' := by
  refine (reset_m 0 5 h rfl cnt5).mono ?_
  rintro e w' ⟨rfl, hm, ha⟩
  have e1 : aw5.resErr 5 = 0 := by kernel_rfl
  have e2 : aw5.resets 5 = aw6 := by kernel_rfl
  rw [e2] at hm
  rw [e1]
  exact ⟨rfl, hm, ha⟩
theorem ins6_1_4 (h : Many X B w0 w [(cb, aw6)]) : Calls Try.prog 22 #[.pointer (some ⟨cb, 0, none⟩), .int .i64 1, .int .i64 1, .int .i64 1, .agg #[.int .u32 0, .int .u32 0, .int .u32 0, .bool false, .int .i64 4]] w fun e w' => e = .returned (.int .i64 24) ∧ Many X B w0 w' [(cb, aw6)] ∧ Aft X w w' := by
  refine (insert_m 0 (⟨1, 1, 1⟩ : Key) (⟨0, 0, 0, false, 4⟩ : Dec) h rfl cnt6 (key_ok 1 (by decide))).mono ?_
  rintro e w' ⟨rfl, hm, ha⟩
  have e1 : aw6.insErr (⟨0, 0, 0, false, 4⟩ : Dec) = 24 := by kernel_rfl
  have e2 : aw6.insert (⟨1, 1, 1⟩ : Key) (⟨0, 0, 0, false, 4⟩ : Dec) = aw6 := by kernel_rfl
  rw [e2] at hm
  rw [e1]
  exact ⟨rfl, hm, ha⟩
theorem rst6_4 (h : Many X B w0 w [(cb, aw6)]) : Calls Try.prog 26 #[.pointer (some ⟨cb, 0, none⟩), .int .i64 4] w fun e w' => e = .returned (.int .i64 24) ∧ Many X B w0 w' [(cb, aw6)] ∧ Aft X w w' := by
  refine (reset_m 0 4 h rfl cnt6).mono ?_
  rintro e w' ⟨rfl, hm, ha⟩
  have e1 : aw6.resErr 4 = 24 := by kernel_rfl
  have e2 : aw6.resets 4 = aw6 := by kernel_rfl
  rw [e2] at hm
  rw [e1]
  exact ⟨rfl, hm, ha⟩
end

set_option maxRecDepth 100000 in
set_option maxHeartbeats 4000000 in
theorem awake_any (w : World) : Calls Try.prog 10 #[] w fun e w' => e = .returned (.bool true) ∧ Below w.heap.size w w' := by
  have HM0 := Lib.hid (Many.start (X := fun _ => False) w w.heap.size (Nat.le_refl _) (fun _ h => h.elim))
  go_enter Try.func10, Try.ntmps10
  go_wp2_with fail
  refine (new_m 2 HM0.out (by decide) (by decide)).mono ?_
  rintro e w1 ⟨cb, rfl, hm, ha⟩
  have HM1 := Lib.hid (show Many (fun _ => False) w.heap.size w w1 [(cb, aw0)] from hm)
  clear hm ha
  go_wp2_with fail
  refine (ins0_1_0 HM1.out).mono ?_
  rintro e w2 ⟨rfl, hm, ha⟩
  have HM2 := Lib.hid hm
  have HA2 := Lib.hid ha
  clear hm ha
  go_wp2_with fail
  refine (ins1_2_0 HM2.out).mono ?_
  rintro e w3 ⟨rfl, hm, ha⟩
  have HM3 := Lib.hid hm
  have HA3 := Lib.hid ha
  clear hm ha
  go_wp2_with fail
  refine (fnd2_1 HM3.out).mono ?_
  rintro e w4 ⟨rfl, hm, ha⟩
  have HM4 := Lib.hid hm
  have HA4 := Lib.hid ha
  clear hm ha
  go_wp2_with (refine wpList_store_blk rfl 46 _ _ rfl w4.heap.size 0 (.agg #[.int .u32 1, .int .u32 0, .int .u32 0, .bool false, .int .i64 0]) rfl rfl 46 _ (Whole.new w4 46 _) (by simp [Value.cells]) size46 rfl ?_; intro w5 S5 W5; have HS5 := Lib.hid S5; have HW5 := Lib.hid (show Whole w5 w4.heap.size 46 #[.int .u32 1, .int .u32 0, .int .u32 0, .bool false, .int .i64 0] from W5); clear S5 W5)
  have hb5 : Below w4.heap.size w4 w5 := ((Below.refl _ w4).alloc (Nat.le_refl _) _).trans (HS5.out.below (Nat.le_refl _))
  have HM5 := Lib.hid (HM4.out.other (Y := (fun i => i = w4.heap.size)) hb5 (fun i e => .inr (by rw [e]; exact ⟨Nat.le_refl _, HW5.out.lt⟩)))
  clear hb5
  refine (ins3_3_0 HM5.out).mono ?_
  rintro e w6 ⟨rfl, hm, ha⟩
  have HM6 := Lib.hid hm
  have HW6 := Lib.hid (ha.whole HW5.out rfl)
  clear hm ha
  go_wp2_with fail
  refine (keys_m 0 HM6.out rfl).mono ?_
  rintro e w7 ⟨v, rfl, hk, ho, hm, hb⟩
  have HM7 := Lib.hid (HM6.out.other (Y := (fun i => i = w4.heap.size ∨ v.ownBlock = some i)) hb (fun i e => e.elim (fun e => .inl e) (fun e => .inr ⟨ho i e, hk.lt i e⟩)))
  have HW7 := Lib.hid (Whole.under hb HW6.out HW6.out.lt)
  have HK7 := Lib.hid (show KeysAt w7 v [(⟨3, 3, 3⟩ : Key), (⟨1, 1, 1⟩ : Key)] from hk)
  clear hk ho hm hb
  go_wp2_with fail
  refine (fnd4_2 HM7.out).mono ?_
  rintro e w8 ⟨rfl, hm, ha⟩
  have HM8 := Lib.hid hm
  have HA8 := Lib.hid ha
  clear hm ha
  have HW8 := Lib.hid (HA8.out.whole HW7.out (.inl rfl))
  have HK8 := Lib.hid (HA8.out.keys HK7.out (fun g hg => .inr hg))
  go_wp2_with (refine wpList_store_blk rfl 46 _ _ rfl w8.heap.size 0 (.agg #[.int .u32 0, .int .u32 0, .int .u32 0, .bool false, .int .i64 0]) rfl rfl 46 _ (Whole.new w8 46 _) (by simp [Value.cells]) size46 rfl ?_; intro w9 S9 W9; have HS9 := Lib.hid S9; have HW9 := Lib.hid (show Whole w9 w8.heap.size 46 #[.int .u32 0, .int .u32 0, .int .u32 0, .bool false, .int .i64 0] from W9); clear S9 W9)
  have hb9 : Below w8.heap.size w8 w9 := ((Below.refl _ w8).alloc (Nat.le_refl _) _).trans (HS9.out.below (Nat.le_refl _))
  have HM9 := Lib.hid (HM8.out.under hb9)
  have HW9' := Lib.hid (Whole.under hb9 HW8.out HW8.out.lt)
  have HK9 := Lib.hid (HK8.out.under hb9)
  clear hb9
  refine (stats_m 0 HM9.out rfl).mono ?_
  rintro e w10 ⟨rfl, hm, hb⟩
  have HM10 := Lib.hid hm
  have HW10 := Lib.hid (Whole.under hb HW9'.out HW9'.out.lt)
  have HK10 := Lib.hid (HK9.out.under hb)
  clear hm hb
  unfold aw5
  go_wp2_with fail
  refine (rst5_5 HM10.out).mono ?_
  rintro e w11 ⟨rfl, hm, ha⟩
  have HM11 := Lib.hid hm
  have HA11 := Lib.hid ha
  clear hm ha
  go_wp2_with fail
  refine (ins6_1_4 HM11.out).mono ?_
  rintro e w12 ⟨rfl, hm, ha⟩
  have HM12 := Lib.hid hm
  have HA12 := Lib.hid ha
  clear hm ha
  go_wp2_with fail
  refine (rst6_4 HM12.out).mono ?_
  rintro e w13 ⟨rfl, hm, ha⟩
  have HM13 := Lib.hid hm
  have HA13 := Lib.hid ha
  clear hm ha
  have HA := Lib.hid ((HA11.out.trans HA12.out).trans HA13.out)
  have HW13 := Lib.hid (HA.out.whole HW10.out (.inl rfl))
  have HK13 := Lib.hid (HA.out.keys HK10.out (fun g hg => .inr hg))
  have k0 : w13.cell? ⟨w4.heap.size, 0, none⟩ = some (.int .u32 1) := HW13.out.cell 0
  clear HA HA11 HA12 HA13
  go_wp2_with fail
  refine (same_keys _ _ _ [(⟨3, 3, 3⟩ : Key), (⟨1, 1, 1⟩ : Key)] (HK13.out.under ((Below.refl _ _).alloc (Nat.le_refl _) _)) (.inr ⟨w13.heap.size, 2, _, rfl, Whole.new w13 41 _, by decide, by decide, by decide, rfl, rfl⟩)).mono ?_
  rintro e w14 ⟨rfl, hb⟩
  have HM14 := Lib.hid ((HM13.out.under ((Below.refl _ _).alloc (Nat.le_refl _) _)).under hb)
  clear hb k0
  go_wp2_with (first | (go_at_call 17; go_must (refine (len_m 0 HM14.out rfl).mono ?_; rintro e w' ⟨rfl, rfl⟩)) | (go_at_call 20; go_must (refine (seq_m 0 HM14.out rfl).mono ?_; rintro e w' ⟨rfl, rfl⟩)) | (go_at_call_of 11 (Value.int IntKind.i64 0); go_must (refine (new_no _ 0 (by decide)).mono ?_; rintro e w' ⟨rfl, rfl⟩)) | (go_at_call_of 11 (Value.int IntKind.i64 1025); go_must (refine (new_no _ 1025 (by decide)).mono ?_; rintro e w' ⟨rfl, rfl⟩)))
  go_ret
  exact ⟨rfl, HM14.out.below⟩

end Go.Proofs.Ytcdhjcjdphnleaa
