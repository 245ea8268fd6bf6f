import Derived.Test.YtmkfabdkadocdaaDoorN1
import Derived.Shelf.Spec.TrailingZeros
import Derived.Sort.Row
/-
  bitset.Least, over the table of the library's TrailingZeros64.
-/
namespace Go.Proofs.YtmkfabdkadocdaaDoor
open Go Go.RowKit

/-- The library's table is where its initialiser laid it. -/
def Tab (w : World) : Prop := TabAt 0 Lib.deBruijn64tab w
theorem tab_len : Lib.deBruijn64tab.length = 64 := by decide
theorem Tab.keep {w w' : World} {b : Nat} (h : Tab w) (hb : Below b w w') (h0 : 0 < b) : Tab w' := fun j hj => by
  rw [← h j hj]
  exact World.cell?_of_block (hb.block 0 h0)
theorem Tab.pos {w : World} (h : Tab w) : 0 < w.heap.size := by
  have := h 0 (by rw [tab_len]; decide)
  obtain ⟨c, e, fr, h1, -⟩ := Sort.cells_of_cell? this
  exact (Array.getElem?_eq_some_iff.1 h1).1
theorem Tab.later {w w' : World} (h : Tab w) (hb : Below w.heap.size w w') : Tab w' := h.keep hb h.pos
set_option maxHeartbeats 1000000 in
theorem tz_core (x k idx : Nat) (w : World) (hx0 : ((x : Int) == 0) = false)
    (key : IntKind.u64.wrap (bits BinOp.and IntKind.u64 (x : Int) (IntKind.u64.wrap (-(x : Int))) * 285870213051353865) / 288230376151711744 = (idx : Int))
    (hi : idx < 64) (hk : k < 64) (hcell : w.cell? ⟨0, idx, none⟩ = some (.int .u8 k)) :
    Calls Tryd.prog 74 #[.int .u64 x] w fun e w' => e = .returned (.int .i64 k) ∧ w' = w := by
  go_enter Tryd.func74, Tryd.ntmps74
  go_wp2_with (simp only [key])
  go_ret
  exact ⟨rfl, rfl⟩
theorem tz_any (w : World) (x : Nat) (hx : U64 x) (hx0 : x ≠ 0) (hT : Tab w) : Calls Tryd.prog 74 #[.int .u64 x] w fun e w' => e = .returned (.int .i64 (Lib.ctz 64 x)) ∧ w' = w := by
  obtain ⟨hlow, hk⟩ := Lib.lowest_bit 64 x hx0 hx
  obtain ⟨hi, htab⟩ := Lib.deBruijn64_at _ hk
  have hcell := hT _ (by rw [tab_len]; exact hi)
  rw [htab] at hcell
  exact tz_core x _ _ w (by simp; omega) (tz64_key x _ hx hx0 hlow) hi hk hcell
theorem ctz_bit {x : Nat} (hx : U64 x) (hx0 : x ≠ 0) : Lib.ctz 64 x < 64 ∧ x.testBit (Lib.ctz 64 x) = true ∧ ∀ j, j < Lib.ctz 64 x → x.testBit j = false := by
  have e : Lib.ctz 64 x = Lib.ctzFrom 64 x := by simp [Lib.ctz, hx0]
  obtain ⟨m, hm, hlt⟩ := Lib.ctzFrom_spec 64 x (by omega) hx
  rw [e]
  obtain ⟨k, hk⟩ : ∃ k, k = Lib.ctzFrom 64 x := ⟨_, rfl⟩
  rw [← hk] at hm hlt ⊢
  refine ⟨hlt, ?_, fun j hj => ?_⟩
  · rw [hm, Nat.testBit_two_pow_mul]
    simp
  · rw [hm, Nat.testBit_two_pow_mul]
    have : ¬ k ≤ j := by omega
    simp [this]
theorem word_none {s : ASet} {i : Nat} (h : s.word i = 0) {j : Nat} (hj : j < 64) (_ : i < 4) : s.has (i * 64 + j) = false := by
  unfold ASet.has
  rw [show (i * 64 + j) / 64 = i by omega, h, Nat.zero_testBit]
theorem least_word {s : ASet} (hs : s.Ok) {i : Nat} (hi : i < 4) (hpre : ∀ k, k < i → s.word k = 0) (h : s.word i ≠ 0) : s.least = ((i * 64 + Lib.ctz 64 (s.word i) : Nat) : Int) := by
  obtain ⟨h1, h2, h3⟩ := ctz_bit (ASet.word_ok hs i) h
  refine least_at (by omega) ?_ fun j hj => ?_
  · unfold ASet.has
    rwa [show (i * 64 + Lib.ctz 64 (s.word i)) / 64 = i by omega, show (i * 64 + Lib.ctz 64 (s.word i)) % 64 = Lib.ctz 64 (s.word i) by omega]
  · by_cases hji : j / 64 < i
    · have := word_none (hpre _ hji) (Nat.mod_lt j (by decide : 0 < 64)) (by omega)
      rwa [show j / 64 * 64 + j % 64 = j by omega] at this
    · have e : j / 64 = i := by omega
      unfold ASet.has
      rw [e]
      exact h3 _ (by omega)
theorem least_empty {s : ASet} (hpre : ∀ k, k < 4 → s.word k = 0) : s.least = -1 := least_none fun j hj => by
  have := word_none (hpre (j / 64) (by omega)) (Nat.mod_lt j (by decide : 0 < 64)) (by omega)
  rwa [show j / 64 * 64 + j % 64 = j by omega] at this
theorem index_word (w : World) (s : ASet) (i : Nat) (hi : i < 4) : (Instr.index 24 (.agg #[.int .u64 s.a, .int .u64 s.b, .int .u64 s.c, .int .u64 s.d]) (.int .i64 (i : Int))).run Tryd.prog w = .ok (.int .u64 (s.word i)) w := by
  rcases four hi with rfl | rfl | rfl | rfl <;> kernel_rfl
set_option maxHeartbeats 4000000 in
theorem least_any (w : World) (s : ASet) (hs : s.Ok) (hT : Tab w) : Calls Tryd.prog 58 #[.agg #[.int .u64 s.a, .int .u64 s.b, .int .u64 s.c, .int .u64 s.d]] w fun e w' => e = .returned (.int .i64 s.least) ∧ Grows w w' := by
  have HS := Lib.hid hs
  have HT := Lib.hid hT
  clear hs hT
  have HW0 := Lib.hid (Whole.new w 24 #[.int .u64 s.a, .int .u64 s.b, .int .u64 s.c, .int .u64 s.d])
  go_enter Tryd.func58, Tryd.ntmps58
  go_wp2_with (refine wpList_load_row rfl 24 _ rfl (w.heap.size) rfl 24 _ (0, 0) _ HW0.out Tryd.underlying24 rfl size24 ?_)
  clear HW0
  go_loopw [6] (fun i wr => ∃ k : Nat, k ≤ 4 ∧ i = .int .i64 k ∧ Hid (∀ j, j < k → s.word j = 0) ∧ Grows w wr) (fun i _ => 4 - (intOf i).toNat)
  case atStart => exact ⟨0, Nat.zero_le _, rfl, fun j hj => by omega, (Grows.refl w).alloc _⟩
  case round =>
    obtain ⟨k, hk, rfl, hpre, hG⟩ := hrel
    have HG := Lib.hid hG
    clear hG
    by_cases hlt : k < 4
    · have hkk : (k : Int) < 4 := by omega
      have q := index_word wr s k hlt
      by_cases hz : s.word k = 0
      · rw [hz] at q
        have HZ := Lib.hid hz
        clear hz
        go_wp2_with fail
        go_roundw
        case rel => exact ⟨k + 1, by omega, by go_num, fun j hj => by
          by_cases hjk : j = k
          · subst hjk; exact HZ.out
          · exact hpre.out j (by omega), HG.out⟩
        case measure => simp [intOf]; omega
      · obtain ⟨x, hx⟩ : ∃ x, x = s.word k := ⟨_, rfl⟩
        rw [← hx] at q hz
        have HX := Lib.hid hx
        have HXU := Lib.hid (show U64 x by rw [hx]; exact ASet.word_ok HS.out k)
        have HXZ := Lib.hid hz
        have hn : ((x : Int) != 0) = true := by simp; omega
        obtain ⟨c, hc⟩ : ∃ c, c = Lib.ctz 64 x := ⟨_, rfl⟩
        have HC := Lib.hid hc
        have hc64 : c < 64 := by rw [hc]; exact (ctz_bit HXU.out hz).1
        clear hx hz hc
        go_wp2_with (go_at_call 74; go_must (refine (tz_any _ x HXU.out HXZ.out (HT.out.later HG.out.below)).mono ?_; rw [← HC.out]; rintro e w1 ⟨rfl, rfl⟩))
        go_ret
        refine ⟨?_, HG.out⟩
        have h := least_word HS.out hlt hpre.out (by rw [← HX.out]; exact HXZ.out)
        rw [h, ← HX.out, ← HC.out]
        refine ret_int ?_
        rw [Int.natCast_add, Int.natCast_mul]
        rfl
    · obtain rfl : k = 4 := by omega
      go_wp2_with fail
      go_ret
      refine ⟨ret_int (least_empty hpre.out).symm, HG.out⟩
end Go.Proofs.YtmkfabdkadocdaaDoor
