import Derived.Test.YtmkfabdkadocdaaDoorJ
/-
  The least element: ref01.Least.
-/
namespace Go.Proofs.YtmkfabdkadocdaaDoor
open Go Go.RowKit

/-- The least element, -1 if there is none. -/
def ASet.least (s : ASet) : Int := match (elems s).head? with
  | some n => (n : Int)
  | none => -1
theorem least_at {s : ASet} {k : Nat} (hk : k < 256) (h : s.has k = true) (hpre : ∀ j, j < k → s.has j = false) : s.least = k := by
  have e : (elems s).head? = some k := by
    unfold elems elemsTo
    have h1 : (List.range 256) = List.range k ++ (k :: (List.range (255 - k)).map (· + (k + 1))) := by
      rw [show (256 : Nat) = k + (1 + (255 - k)) by omega, List.range_add, List.range_add]
      simp [Nat.add_comm, Nat.add_left_comm, Function.comp_def]
    rw [h1, List.filter_append]
    have h2 : (List.range k).filter s.has = [] := List.filter_eq_nil_iff.2 fun j hj => by rw [hpre j (List.mem_range.1 hj)]; simp
    rw [h2, List.nil_append, List.filter_cons_of_pos h]
    rfl
  unfold ASet.least
  rw [e]
theorem least_none {s : ASet} (hpre : ∀ j, j < 256 → s.has j = false) : s.least = -1 := by
  have e : elems s = [] := List.filter_eq_nil_iff.2 fun j hj => by rw [hpre j (List.mem_range.1 hj)]; simp
  unfold ASet.least
  rw [e]
  rfl
set_option maxHeartbeats 4000000 in
theorem rleast_any (w : World) (s : ASet) (hs : s.Ok) : Calls Tryd.prog 75 #[.agg #[.int .u64 s.a, .int .u64 s.b, .int .u64 s.c, .int .u64 s.d]] w fun e w' => e = .returned (.int .i64 s.least) ∧ Below w.heap.size w w' := by
  have HS := Lib.hid hs
  clear hs
  have HW0 := Lib.hid (Whole.new w 24 #[.int .u64 s.a, .int .u64 s.b, .int .u64 s.c, .int .u64 s.d])
  go_enter Tryd.func75, Tryd.ntmps75
  go_wp2_with fail
  go_loopw [3] (fun i wr => ∃ k : Nat, k ≤ 256 ∧ i = .int .i64 k ∧ Hid (∀ j, j < k → s.has j = false) ∧ Below w.heap.size w wr ∧ Whole wr w.heap.size 24 #[.int .u64 s.a, .int .u64 s.b, .int .u64 s.c, .int .u64 s.d]) (fun i _ => 256 - (intOf i).toNat)
  case atStart => exact ⟨0, Nat.zero_le _, rfl, fun j hj => by omega, (Below.refl _ w).alloc (Nat.le_refl _) _, HW0.out⟩
  case round =>
    clear HW0
    obtain ⟨k, hk, rfl, hpre, hb, hW⟩ := hrel
    have HB := Lib.hid hb
    have HWr := Lib.hid hW
    clear hb hW
    by_cases hlt : k < 256
    · have hkk : (k : Int) < 256 := by omega
      by_cases hh : s.has k = true
      · have HH := Lib.hid hh
        clear hh
        go_wp2_with (first | (refine wpList_load_row rfl 24 _ rfl (w.heap.size) rfl 24 _ (0, 0) _ HWr.out Tryd.underlying24 rfl size24 ?_) | (go_at_call 28; go_must (refine (show Calls Tryd.prog 28 _ _ (fun e w' => e = .returned (.bool true) ∧ Below wr.heap.size wr w') from by have h := rhas_any wr s HS.out (k : Int); rw [ASet.mem_nat s hlt, HH.out] at h; exact h).mono ?_; rintro e w1 ⟨rfl, hb1⟩; have HB1 := Lib.hid hb1; clear hb1)))
        go_ret
        exact ⟨ret_int (least_at hlt HH.out hpre.out).symm, HB.out.trans (HB1.out.mono HB.out.size)⟩
      · have HH := Lib.hid (Bool.eq_false_iff.2 hh)
        clear hh
        go_wp2_with (first | (refine wpList_load_row rfl 24 _ rfl (w.heap.size) rfl 24 _ (0, 0) _ HWr.out Tryd.underlying24 rfl size24 ?_) | (go_at_call 28; go_must (refine (show Calls Tryd.prog 28 _ _ (fun e w' => e = .returned (.bool false) ∧ Below wr.heap.size wr w') from by have h := rhas_any wr s HS.out (k : Int); rw [ASet.mem_nat s hlt, HH.out] at h; exact h).mono ?_; rintro e w1 ⟨rfl, hb1⟩; have HB1 := Lib.hid hb1; clear hb1)))
        go_roundw
        case rel => exact ⟨k + 1, by omega, by go_num, fun j hj => by
          by_cases hjk : j = k
          · subst hjk; exact HH.out
          · exact hpre.out j (by omega), HB.out.trans (HB1.out.mono HB.out.size), Whole.under HB1.out HWr.out HWr.out.lt⟩
        case measure => simp [intOf]; omega
    · obtain rfl : k = 256 := by omega
      go_wp2_with fail
      go_ret
      exact ⟨ret_int (least_none hpre.out).symm, HB.out⟩
end Go.Proofs.YtmkfabdkadocdaaDoor
