import Derived.Test.YtmkfabdkadocdaaDoorD
/-
  Lists of elements: bitset.List, ref01.List, ref01.Count.
-/
namespace Go.Proofs.YtmkfabdkadocdaaDoor
open Go Go.RowKit

def ints (l : List Nat) : List Value := l.map fun n : Nat => .int .i64 (n : Int)
theorem ints_app (a b : List Nat) : ints (a ++ b) = ints a ++ ints b := List.map_append
theorem ints_len (a : List Nat) : (ints a).length = a.length := by simp [ints]
def elemsTo (s : ASet) (k : Nat) : List Nat := (List.range k).filter s.has
def elems (s : ASet) : List Nat := elemsTo s 256
theorem elemsTo_len (s : ASet) (k : Nat) : (elemsTo s k).length ≤ k := by
  have := List.length_filter_le s.has (List.range k)
  simpa [elemsTo] using this
theorem elemsTo_yes {s : ASet} {k : Nat} (h : s.has k = true) : elemsTo s (k + 1) = elemsTo s k ++ [k] := by
  simp [elemsTo, List.range_succ, List.filter_append, h]
theorem elemsTo_no {s : ASet} {k : Nat} (h : s.has k = false) : elemsTo s (k + 1) = elemsTo s k := by
  simp [elemsTo, List.range_succ, List.filter_append, h]
theorem ASet.mem_nat (s : ASet) {k : Nat} (h : k < 256) : s.mem (k : Int) = s.has k := by
  unfold ASet.mem
  simp
  omega
theorem row_form {w : World} {base : Nat} {e : TypeId} {k n : Nat} {v : Value} {xs : List Value} (h : w.ownsRow base e k v n xs) : ∃ a c, v = .slice a n c := by
  rcases h.2 with ⟨rfl, h0⟩ | ⟨g, cap, cur, rfl, _⟩
  · exact ⟨none, 0, by simp_all⟩
  · exact ⟨_, _, rfl⟩
theorem info3 : infoB (Tryd.prog.info? 3) 1 8 = true := by kernel_rfl
theorem cell_one_new (w : World) (v : Value) (t : TypeId) : ∀ j u, ([v] : List Value)[j]? = some u → (w.alloc (.cells #[v] t)).cell? ((⟨w.heap.size, 0, none⟩ : Addr).add j) = some u := fun j u hj => by
  rw [Addr.add_lit, Nat.zero_add]
  exact ((Whole.new w t #[v]).cell j).trans (by simpa using hj)

set_option maxHeartbeats 4000000 in
theorem list_any (w : World) (s : ASet) (hs : s.Ok) :
    Calls Tryd.prog 26 #[.agg #[.int .u64 s.a, .int .u64 s.b, .int .u64 s.c, .int .u64 s.d]] w fun e w' => ∃ v, e = .returned v ∧ w'.ownsRow w.heap.size 3 1 v (elems s).length (ints (elems s)) ∧ Below w.heap.size w w' := by
  obtain ⟨i0, z, hi, hz0, hz1, hz2, hzs⟩ := infoOf info3
  have HS := Lib.hid hs
  clear hs
  have HW0 := Lib.hid (Whole.new w 24 #[.int .u64 s.a, .int .u64 s.b, .int .u64 s.c, .int .u64 s.d])
  go_enter Tryd.func26, Tryd.ntmps26
  go_wp2_with fail
  go_loopw [3, 5] (fun u i wr => ∃ k : Nat, k ≤ 256 ∧ i = .int .i64 k ∧ wr.ownsRow w.heap.size 3 1 u (elemsTo s k).length (ints (elemsTo s k)) ∧ Below w.heap.size w wr ∧ Whole wr w.heap.size 24 #[.int .u64 s.a, .int .u64 s.b, .int .u64 s.c, .int .u64 s.d]) (fun _ i _ => 256 - (intOf i).toNat)
  case atStart => exact ⟨0, Nat.zero_le _, rfl, by simpa [elemsTo, ints] using World.ownsRow_nil _ _ _ _, (Below.refl _ w).alloc (Nat.le_refl _) _, HW0.out⟩
  case round =>
    clear HW0
    obtain ⟨k, hk, rfl, hown, hb, hW⟩ := hrel
    have HO := Lib.hid hown
    have HB := Lib.hid hb
    have HWr := Lib.hid hW
    clear hown hb hW
    have hlen := elemsTo_len s k
    by_cases hlt : k < 256
    · have hkk : (k : Int) < 256 := by omega
      have hload : True := trivial
      by_cases hh : s.has k = true
      · have HH := Lib.hid hh
        clear hh
        go_wp2_with (first | (refine wpList_load_row rfl 24 _ rfl (w.heap.size) rfl 24 _ (0, 0) _ HWr.out Tryd.underlying24 rfl size24 ?_) | (go_at_call 46; go_must (refine (show Calls Tryd.prog 46 _ _ (fun e w' => e = .returned (.bool true) ∧ Below wr.heap.size wr w') from by have h := has_any wr s HS.out (k : Int); rw [ASet.mem_nat s hlt, HH.out] at h; exact h).mono ?_; rintro e w1 ⟨rfl, hb1⟩; have HB1 := Lib.hid hb1; clear hb1)) | (at_builtin; refine wpList_append_own _ rfl _ _ 64 rfl w.heap.size 3 i0 z 1 8 Tryd.underlying64 hi hz0 hz1 hz2 hzs (by decide) _ _ _ rfl ((own_keep HB1.out HO.out (Nat.le_refl _)).alloc _) ⟨w1.heap.size, 0, none⟩ 1 1 [.int .i64 (k : Int)] rfl rfl (cell_one_new _ _ _) ?c2 ?c3 ?c4 ?c5 ?_))
        case c2 => simp [Value.oneCell']
        case c3 => unfold maxLen; omega
        case c4 => omega
        case c5 => have := HB.out.size; have := HB1.out.size; simp; omega
        intro v' w2 hown' hgrow hnil
        have HO1 := Lib.hid (own_keep HB1.out HO.out (Nat.le_refl _))
        have hb2 : Below w.heap.size w w2 := ((HB.out.trans (HB1.out.mono HB.out.size)).alloc (by have := HB.out.size; have := HB1.out.size; omega) _).grown hgrow (by have := HB.out.size; have := HB1.out.size; simp; omega) (fun q hq => by have := (HO1.out.lt q hq).1; omega)
        have HWn := Lib.hid (((Whole.under HB1.out HWr.out HWr.out.lt).alloc (.cells #[.int .i64 (k : Int)] 3)).grown hgrow (fun e => own_blk_far HO1.out (Whole.under HB1.out HWr.out HWr.out.lt) (by decide) e.symm))
        have HN := Lib.hid hown'
        have HB2 := Lib.hid hb2
        clear hgrow hnil hown' hb2
        go_wp2
        go_roundw
        case rel => exact ⟨k + 1, by omega, by go_num, by rw [elemsTo_yes HH.out, List.length_append, ints_app]; exact HN.out, HB2.out, HWn.out⟩
        case measure => simp [intOf]; omega
      · have HH := Lib.hid (Bool.eq_false_iff.2 hh)
        clear hh
        go_wp2_with (first | (refine wpList_load_row rfl 24 _ rfl (w.heap.size) rfl 24 _ (0, 0) _ HWr.out Tryd.underlying24 rfl size24 ?_) | (go_at_call 46; go_must (refine (show Calls Tryd.prog 46 _ _ (fun e w' => e = .returned (.bool false) ∧ Below wr.heap.size wr w') from by have h := has_any wr s HS.out (k : Int); rw [ASet.mem_nat s hlt, HH.out] at h; exact h).mono ?_; rintro e w1 ⟨rfl, hb1⟩; have HB1 := Lib.hid hb1; clear hb1)))
        go_roundw
        case rel => exact ⟨k + 1, by omega, by go_num, by rw [elemsTo_no HH.out]; exact own_keep HB1.out HO.out (Nat.le_refl _), HB.out.trans (HB1.out.mono HB.out.size), Whole.under HB1.out HWr.out HWr.out.lt⟩
        case measure => simp [intOf]; omega
    · obtain rfl : k = 256 := by omega
      go_wp2_with fail
      go_ret
      exact ⟨_, rfl, HO.out, HB.out⟩

set_option maxHeartbeats 4000000 in
theorem rlist_any (w : World) (s : ASet) (hs : s.Ok) :
    Calls Tryd.prog 49 #[.agg #[.int .u64 s.a, .int .u64 s.b, .int .u64 s.c, .int .u64 s.d]] w fun e w' => ∃ v, e = .returned v ∧ w'.ownsRow w.heap.size 3 1 v (elems s).length (ints (elems s)) ∧ Below w.heap.size w w' := by
  obtain ⟨i0, z, hi, hz0, hz1, hz2, hzs⟩ := infoOf info3
  have HS := Lib.hid hs
  clear hs
  have HW0 := Lib.hid (Whole.new w 24 #[.int .u64 s.a, .int .u64 s.b, .int .u64 s.c, .int .u64 s.d])
  go_enter Tryd.func49, Tryd.ntmps49
  go_wp2_with fail
  go_loopw [3, 4] (fun u i wr => ∃ k : Nat, k ≤ 256 ∧ i = .int .i64 k ∧ wr.ownsRow w.heap.size 3 1 u (elemsTo s k).length (ints (elemsTo s k)) ∧ Below w.heap.size w wr ∧ Whole wr w.heap.size 24 #[.int .u64 s.a, .int .u64 s.b, .int .u64 s.c, .int .u64 s.d]) (fun _ i _ => 256 - (intOf i).toNat)
  case atStart => exact ⟨0, Nat.zero_le _, rfl, by simpa [elemsTo, ints] using World.ownsRow_nil _ _ _ _, (Below.refl _ w).alloc (Nat.le_refl _) _, HW0.out⟩
  case round =>
    clear HW0
    obtain ⟨k, hk, rfl, hown, hb, hW⟩ := hrel
    have HO := Lib.hid hown
    have HB := Lib.hid hb
    have HWr := Lib.hid hW
    clear hown hb hW
    have hlen := elemsTo_len s k
    by_cases hlt : k < 256
    · have hkk : (k : Int) < 256 := by omega
      have hload : True := trivial
      by_cases hh : s.has k = true
      · have HH := Lib.hid hh
        clear hh
        go_wp2_with (first | (refine wpList_load_row rfl 24 _ rfl (w.heap.size) rfl 24 _ (0, 0) _ HWr.out Tryd.underlying24 rfl size24 ?_) | (go_at_call 28; go_must (refine (show Calls Tryd.prog 28 _ _ (fun e w' => e = .returned (.bool true) ∧ Below wr.heap.size wr w') from by have h := rhas_any wr s HS.out (k : Int); rw [ASet.mem_nat s hlt, HH.out] at h; exact h).mono ?_; rintro e w1 ⟨rfl, hb1⟩; have HB1 := Lib.hid hb1; clear hb1)) | (at_builtin; refine wpList_append_own _ rfl _ _ 64 rfl w.heap.size 3 i0 z 1 8 Tryd.underlying64 hi hz0 hz1 hz2 hzs (by decide) _ _ _ rfl ((own_keep HB1.out HO.out (Nat.le_refl _)).alloc _) ⟨w1.heap.size, 0, none⟩ 1 1 [.int .i64 (k : Int)] rfl rfl (cell_one_new _ _ _) ?c2 ?c3 ?c4 ?c5 ?_))
        case c2 => simp [Value.oneCell']
        case c3 => unfold maxLen; omega
        case c4 => omega
        case c5 => have := HB.out.size; have := HB1.out.size; simp; omega
        intro v' w2 hown' hgrow hnil
        have HO1 := Lib.hid (own_keep HB1.out HO.out (Nat.le_refl _))
        have hb2 : Below w.heap.size w w2 := ((HB.out.trans (HB1.out.mono HB.out.size)).alloc (by have := HB.out.size; have := HB1.out.size; omega) _).grown hgrow (by have := HB.out.size; have := HB1.out.size; simp; omega) (fun q hq => by have := (HO1.out.lt q hq).1; omega)
        have HWn := Lib.hid (((Whole.under HB1.out HWr.out HWr.out.lt).alloc (.cells #[.int .i64 (k : Int)] 3)).grown hgrow (fun e => own_blk_far HO1.out (Whole.under HB1.out HWr.out HWr.out.lt) (by decide) e.symm))
        have HN := Lib.hid hown'
        have HB2 := Lib.hid hb2
        clear hgrow hnil hown' hb2
        go_wp2
        go_roundw
        case rel => exact ⟨k + 1, by omega, by go_num, by rw [elemsTo_yes HH.out, List.length_append, ints_app]; exact HN.out, HB2.out, HWn.out⟩
        case measure => simp [intOf]; omega
      · have HH := Lib.hid (Bool.eq_false_iff.2 hh)
        clear hh
        go_wp2_with (first | (refine wpList_load_row rfl 24 _ rfl (w.heap.size) rfl 24 _ (0, 0) _ HWr.out Tryd.underlying24 rfl size24 ?_) | (go_at_call 28; go_must (refine (show Calls Tryd.prog 28 _ _ (fun e w' => e = .returned (.bool false) ∧ Below wr.heap.size wr w') from by have h := rhas_any wr s HS.out (k : Int); rw [ASet.mem_nat s hlt, HH.out] at h; exact h).mono ?_; rintro e w1 ⟨rfl, hb1⟩; have HB1 := Lib.hid hb1; clear hb1)))
        go_roundw
        case rel => exact ⟨k + 1, by omega, by go_num, by rw [elemsTo_no HH.out]; exact own_keep HB1.out HO.out (Nat.le_refl _), HB.out.trans (HB1.out.mono HB.out.size), Whole.under HB1.out HWr.out HWr.out.lt⟩
        case measure => simp [intOf]; omega
    · obtain rfl : k = 256 := by omega
      go_wp2_with fail
      go_ret
      exact ⟨_, rfl, HO.out, HB.out⟩

set_option maxHeartbeats 2000000 in
theorem rcount_any (w : World) (s : ASet) (hs : s.Ok) : Calls Tryd.prog 30 #[.agg #[.int .u64 s.a, .int .u64 s.b, .int .u64 s.c, .int .u64 s.d]] w fun e w' => e = .returned (.int .i64 (elems s).length) ∧ Below w.heap.size w w' := by
  have HS := Lib.hid hs
  clear hs
  generalize hn : (elems s).length = n
  have HN := Lib.hid hn
  go_enter Tryd.func30, Tryd.ntmps30
  go_wp2_with (go_at_call 49; go_must (refine (rlist_any _ s HS.out).mono ?_; rintro e w1 ⟨v, rfl, hv, hb⟩; rw [HN.out] at hv; obtain ⟨a, c, rfl⟩ := row_form hv; have HB := Lib.hid hb; clear hb hv))
  go_ret
  exact ⟨rfl, below_of_alloc (HB.out.mono (by simp))⟩
end Go.Proofs.YtmkfabdkadocdaaDoor
