import Derived.WalkKit
import Derived.WalkSpells
import Derived.WalkLawsBesides
import Derived.Handy
import Derived.BigQuiet
import Derived.Outline
import Derived.Deep.RegionHeld3
import Derived.Deep.DeepCutAuto
import Derived.Deep.DeepMust
import Derived.Deep.DeepFit
import Derived.Deep.LoopGhost
import Derived.Lib.Hide
import Derived.IntWalk
import Derived.Deep.CutBlock
import Derived.Deep.RegionWith
import Derived.Test.YtibikehfeobikaaD
/-
  THE CONTRACT of PutSet (printed by a program).
-/
namespace Go.Proofs.Ytibikehfeobikaa
open Go.RowKit

def U64 (n : Nat) : Prop := n < 18446744073709551616
def setLen (a b c d : Nat) : Nat := if d ≠ 0 then 4 else if c ≠ 0 then 3 else if b ≠ 0 then 2 else if a ≠ 0 then 1 else 0
def putSet (a b c d : Nat) : List Nat := putNum (setLen a b c d) ++ (([a, b, c, d] : List Nat).take (setLen a b c d)).flatMap putNum

theorem setLen_le (a b c d : Nat) : setLen a b c d ≤ 4 := by
  unfold setLen
  repeat' split
  all_goals omega
theorem setLen_ge {a b c d j y : Nat} (h : ([a, b, c, d] : List Nat)[j]? = some y) (hy : y ≠ 0) : j + 1 ≤ setLen a b c d := by
  match j, h with
  | 0, h => simp at h; subst h; unfold setLen; repeat' split
            all_goals omega
  | 1, h => simp at h; subst h; unfold setLen; repeat' split
            all_goals omega
  | 2, h => simp at h; subst h; unfold setLen; repeat' split
            all_goals omega
  | 3, h => simp at h; subst h; unfold setLen; repeat' split
            all_goals omega
  | j + 4, h => simp at h
theorem setLen_lt {a b c d j : Nat} (h : ([a, b, c, d] : List Nat)[j]? = some 0) (hs : setLen a b c d ≤ j + 1) : setLen a b c d ≤ j := by
  match j, h with
  | 0, h => simp at h; subst h; unfold setLen at *; repeat' split at hs
            all_goals simp_all
  | 1, h => simp at h; subst h; unfold setLen at *; repeat' split at hs
            all_goals simp_all
  | 2, h => simp at h; subst h; unfold setLen at *; repeat' split at hs
            all_goals simp_all
  | 3, h => simp at h; subst h; unfold setLen at *; repeat' split at hs
            all_goals simp_all
  | j + 4, h => simp at h
theorem quad_at {a b c d : Nat} (ha : U64 a) (hb : U64 b) (hc : U64 c) (hd : U64 d) {j : Nat} (hj : j < 4) : ∃ y, ([a, b, c, d] : List Nat)[j]? = some y ∧ U64 y := by
  match j, hj with
  | 0, _ => exact ⟨a, rfl, ha⟩
  | 1, _ => exact ⟨b, rfl, hb⟩
  | 2, _ => exact ⟨c, rfl, hc⟩
  | 3, _ => exact ⟨d, rfl, hd⟩
theorem quad_cell {a b c d j y : Nat} (h : ([a, b, c, d] : List Nat)[j]? = some y) : (#[.int .u64 (a : Int), .int .u64 (b : Int), .int .u64 (c : Int), .int .u64 (d : Int)] : Array Value)[j]? = some (.int .u64 (y : Int)) := by
  match j, h with
  | 0, h => simp at h; subst h; rfl
  | 1, h => simp at h; subst h; rfl
  | 2, h => simp at h; subst h; rfl
  | 3, h => simp at h; subst h; rfl
  | j + 4, h => simp at h
theorem flat_len {a b c d j : Nat} (hj : j ≤ 4) (ha : U64 a) (hb : U64 b) (hc : U64 c) (hd : U64 d) : ((([a, b, c, d] : List Nat).take j).flatMap putNum).length ≤ 40 := by
  have h1 := putNum_len10 ha
  have h2 := putNum_len10 hb
  have h3 := putNum_len10 hc
  have h4 := putNum_len10 hd
  match j, hj with
  | 0, _ => simp
  | 1, _ => simp; omega
  | 2, _ => simp; omega
  | 3, _ => simp; omega
  | 4, _ => simp; omega

theorem slice_arr (w : World) (g : Nat) (n : Nat) (hn : n ≤ 4) : (Instr.sliceAt 34 (.pointer (some ⟨g, 0, none⟩)) none (some (.int .i64 (n : Int))) none).run Try.prog w = .ok (.slice (some ⟨g, 0, none⟩) n 4) w := by
  obtain rfl | rfl | rfl | rfl | rfl : n = 0 ∨ n = 1 ∨ n = 2 ∨ n = 3 ∨ n = 4 := by omega
  all_goals kernel_rfl

set_option maxRecDepth 100000 in
set_option maxHeartbeats 2000000 in
theorem putSet_any (v : Value) (xs : List Nat) (a b c d : Nat) (B : Nat) (w : World) (h : OwnB w B v xs) (hB : B ≤ w.heap.size) (ha : U64 a) (hb0 : U64 b) (hc : U64 c) (hd : U64 d) (hl : xs.length ≤ 80000) :
    Calls Try.prog 15 #[v, .agg #[.int .u64 a, .int .u64 b, .int .u64 c, .int .u64 d]] w fun e w' => ∃ r, e = .returned r ∧ OwnB w' B r (xs ++ putSet a b c d) ∧ Below B w w' ∧ K5 w w' := by
  have HX := Lib.hid h
  have HW := Lib.hid (Whole.new w 34 #[.int .u64 a, .int .u64 b, .int .u64 c, .int .u64 d])
  clear h
  go_enter Try.func15, Try.ntmps15
  go_wp2_with fail
  go_loop [5] (fun i => ∃ k : Nat, k ≤ 4 ∧ i = .int .i64 k ∧ Hid (setLen a b c d ≤ k)) (fun i => (intOf i).toNat)
  case atStart => exact ⟨4, Nat.le_refl _, rfl, setLen_le a b c d⟩
  case round =>
    obtain ⟨K, hk, rfl, hpre⟩ := hrel
    by_cases h0 : K = 0
    · subst h0
      have hset : 0 = setLen a b c d := (Nat.le_zero.1 hpre.out).symm

      have HK0 := Lib.hid hset
      have hk4 : 0 ≤ 4 := hset ▸ setLen_le a b c d
      clear hset hpre
      go_wp2_with fail
      refine (putNumber_any v xs 0 B _ (HX.out.keep (by go_grown)) (by simp; omega) (by omega) (by omega)).mono ?_
      rintro e w2 ⟨r, rfl, hr, hb2, hk2⟩
      have hpl := putNum_len10 (n := 0) (by omega)
      have hsl : ∀ W : World, (Instr.sliceAt 34 (.pointer (some ⟨w.heap.size, 0, none⟩)) none (some (.int .i64 (0))) none).run Try.prog W = .ok (.slice (some ⟨w.heap.size, 0, none⟩) (0) 4) W := fun W => slice_arr W _ (0) (by omega)
      have HR := Lib.hid hr
      have hB2 : Below B w w2 := ((Below.refl _ w).alloc hB _).trans hb2
      have HW2 := Lib.hid (hk2 w.heap.size 34 _ (by decide) HW.out)
      have HK2 := Lib.hid (show K5 w w2 from ((K5.refl w).alloc _).trans hk2)
      clear hr hb2 hk2
      go_wp2_with fail
      go_loopw [0, 26] (fun u i wr => ∃ j : Nat, j ≤ 0 ∧ i = .int .i64 j ∧ OwnB wr B u (xs ++ putNum 0 ++ (([a, b, c, d] : List Nat).take j).flatMap putNum) ∧ Below B w wr ∧ Hid (K5 w wr) ∧ Whole wr w.heap.size 34 #[.int .u64 a, .int .u64 b, .int .u64 c, .int .u64 d]) (fun _ i _ => 0 - (intOf i).toNat)
      case atStart => exact ⟨0, Nat.zero_le _, rfl, by simpa using HR.out, hB2, HK2.out, HW2.out⟩
      case round =>
        clear hB2
        obtain ⟨j, hj, rfl, hown, hb, hk5, hW⟩ := hrel
        have HWr := Lib.hid hW
        have HO := Lib.hid hown
        clear hown hW
        by_cases hlt : j < 0
        · omega
        · obtain rfl : j = 0 := by omega
          go_wp2_with fail
          go_ret
          refine ⟨_, rfl, ?_, hb, hk5.out⟩
          have h := HO.out
          rw [List.append_assoc] at h
          unfold putSet
          rw [← HK0.out]
          exact h
    · obtain ⟨j0, rfl⟩ : ∃ j, K = j + 1 := ⟨K - 1, by omega⟩
      obtain ⟨y, hy, hyb⟩ := quad_at ha hb0 hc hd (j := j0) (by omega)
      have hcell : (w.alloc (.cells #[.int .u64 a, .int .u64 b, .int .u64 c, .int .u64 d] 34)).cell? ⟨w.heap.size, j0, none⟩ = some (.int .u64 y) := by rw [HW.out.cell]; exact quad_cell hy
      have HY := Lib.hid (And.intro hy hyb)
      clear hy hyb
      by_cases hy0 : y = 0
      · subst hy0
        go_wp2_with fail
        go_round
        case rel => exact ⟨j0, by omega, by first | rfl | go_num, setLen_lt HY.out.1 hpre.out⟩
        case measure => simp [intOf]
      · have hset : j0 + 1 = setLen a b c d := Nat.le_antisymm (setLen_ge HY.out.1 hy0) hpre.out
        have ht : ((y : Int) == 0) = false := by simp; omega
        clear hy0 HY h0

        have HK0 := Lib.hid hset
        have hk4 : (j0 + 1) ≤ 4 := hset ▸ setLen_le a b c d
        clear hset hpre
        go_wp2_with fail
        refine (putNumber_any v xs (j0 + 1) B _ (HX.out.keep (by go_grown)) (by simp; omega) (by omega) (by omega)).mono ?_
        rintro e w2 ⟨r, rfl, hr, hb2, hk2⟩
        have hpl := putNum_len10 (n := (j0 + 1)) (by omega)
        have hsl : ∀ W : World, (Instr.sliceAt 34 (.pointer (some ⟨w.heap.size, 0, none⟩)) none (some (.int .i64 ((j0 : Int) + 1))) none).run Try.prog W = .ok (.slice (some ⟨w.heap.size, 0, none⟩) ((j0 + 1)) 4) W := fun W => slice_arr W _ ((j0 + 1)) (by omega)
        have HR := Lib.hid hr
        have hB2 : Below B w w2 := ((Below.refl _ w).alloc hB _).trans hb2
        have HW2 := Lib.hid (hk2 w.heap.size 34 _ (by decide) HW.out)
        have HK2 := Lib.hid (show K5 w w2 from ((K5.refl w).alloc _).trans hk2)
        clear hr hb2 hk2
        go_wp2_with fail
        go_loopw [0, 26] (fun u i wr => ∃ j : Nat, j ≤ (j0 + 1) ∧ i = .int .i64 j ∧ OwnB wr B u (xs ++ putNum (j0 + 1) ++ (([a, b, c, d] : List Nat).take j).flatMap putNum) ∧ Below B w wr ∧ Hid (K5 w wr) ∧ Whole wr w.heap.size 34 #[.int .u64 a, .int .u64 b, .int .u64 c, .int .u64 d]) (fun _ i _ => (j0 + 1) - (intOf i).toNat)
        case atStart => exact ⟨0, Nat.zero_le _, rfl, by simpa using HR.out, hB2, HK2.out, HW2.out⟩
        case round =>
          clear hB2
          obtain ⟨j, hj, rfl, hown, hb, hk5, hW⟩ := hrel
          have HWr := Lib.hid hW
          have HO := Lib.hid hown
          clear hown hW
          by_cases hlt : j < (j0 + 1)
          · obtain ⟨y, hy, hyb⟩ := quad_at ha hb0 hc hd (j := j) (by omega)
            have hcell : wr.cell? ⟨w.heap.size, j, none⟩ = some (.int .u64 y) := by rw [HWr.out.cell]; exact quad_cell hy
            have hfl := flat_len (by omega : j ≤ 4) ha hb0 hc hd
            have HY := Lib.hid (And.intro hy hyb)
            have hz := hb.size
            clear hy hyb
            go_wp2_with fail
            refine (putNumber_any _ _ y B _ HO.out (by omega) HY.out.2 (by rw [List.length_append, List.length_append]; omega)).mono ?_
            rintro e w3 ⟨r', rfl, hr, hb3, hk3⟩
            have HR3 := Lib.hid hr
            have HK3 := Lib.hid (hk5.out.trans hk3)
            have HW3 := Lib.hid (hk3 _ _ _ (by decide) HWr.out)
            have hb4 := hb.trans hb3
            clear hr hb3 hk3 hb hz hfl hcell
            go_wp2_with fail
            go_roundw
            case rel => exact ⟨j + 1, by omega, by go_num, by rw [take_snoc HY.out.1, List.flatMap_append, List.flatMap_singleton, ← List.append_assoc]; exact HR3.out, hb4, HK3.out, HW3.out⟩
            case measure => simp [intOf]; omega
          · obtain rfl : j = (j0 + 1) := by omega
            go_wp2_with fail
            go_ret
            refine ⟨_, rfl, ?_, hb, hk5.out⟩
            have h := HO.out
            rw [List.append_assoc] at h
            unfold putSet
            rw [← HK0.out]
            exact h
end Go.Proofs.Ytibikehfeobikaa
