import Derived.WalkKit
import Derived.WalkSpells
import Derived.WalkLawsBesides
import Derived.Handy
import Derived.BigQuiet
import Derived.Outline
import Derived.Deep.RegionHeld3
import Derived.Deep.DeepCutAuto
import Derived.Deep.DeepMust
import Derived.Deep.DeepFit
import Derived.Deep.LoopGhost
import Derived.Lib.Hide
import Derived.IntWalk
import Derived.Test.YtjpfnndfhbglgaaE
import Derived.WalkSmall
/-
  THE CONTRACTS OF ints AND types.
-/
namespace Go.Proofs.Ytjpfnndfhbglgaa
open Go.RowKit

set_option maxHeartbeats 400000 in
theorem ints_any (v v' : Value) (l l' : List Int) (w : World) (h : SliceAt w v 1 l.length (intCells l)) (h' : SliceAt w v' 1 l'.length (intCells l')) :
    Calls Try.prog 16 #[v, v'] w fun e w' => e = .returned (.bool (decide (l = l'))) ∧ Below w.heap.size w w' := by
  obtain ⟨a, c, rfl, hm, ha⟩ := intsOpen h
  obtain ⟨a', c', rfl, hm', ha'⟩ := intsOpen h'
  clear h h'
  have HA := Lib.hid ha
  have HA' := Lib.hid ha'
  clear ha ha'
  by_cases hll : l.length = l'.length
  · have HL := Lib.hid hll
    have ht : ((l.length : Int) != l'.length) = false := by simp [hll]
    clear hll
    go_enter Try.func16, Try.ntmps16
    go_wp2
    go_loopw [13] (fun i wr => ∃ k : Nat, k ≤ l.length ∧ i = .int .i64 k ∧ Hid (∀ i, i < k → l[i]? = l'[i]?) ∧ Below w.heap.size w wr) (fun i _ => l.length - (intOf i).toNat)
    case atStart => exact ⟨0, by omega, rfl, by intro i hi; omega, by go_grown⟩
    case round =>
      obtain ⟨k, hk, rfl, hx, hb⟩ := hrel
      by_cases hlt : k < l.length
      · obtain ⟨y, b, off, rfl, hy, hc⟩ := HA.out k hlt
        obtain ⟨y', b', off', rfl, hy', hc'⟩ := HA'.out k (by rw [← HL.out]; exact hlt)
        have hlt' : k < l'.length := by rw [← HL.out]; exact hlt
        replace hc := cell_later hb hc
        replace hc' := cell_later hb hc'
        have HY := Lib.hid hy
        have HY' := Lib.hid hy'
        clear hy hy'
        by_cases hyy : y = y'
        · subst hyy
          go_wp2
          go_quiet (fail)
          go_wp2
          go_roundw
          case rel => exact ⟨k + 1, by omega, by go_num, by
            intro i hi
            by_cases h : i = k
            · subst h; rw [HY.out, HY'.out]
            · exact hx.out i (by omega), below_drewN hb _⟩
          case measure => simp [intOf]; omega
        · have ht : (y != y') = true := by simpa using hyy
          have HN := Lib.hid hyy
          clear hyy
          go_wp2
          go_quiet (fail)
          go_wp2
          go_ret
          refine ⟨ret_bool ?_, below_drewN hb _⟩
          rw [eq_comm, decide_eq_false_iff_not]
          rintro rfl
          exact HN.out (Option.some.inj (HY.out.symm.trans HY'.out))
      · go_wp2
        go_ret
        refine ⟨ret_bool ?_, hb⟩
        rw [eq_comm, decide_eq_true_iff]
        exact eq_of_at HL.out fun i hi => hx.out i (by omega)
  · have ht : ((l.length : Int) != l'.length) = true := by simp; omega
    have HL := Lib.hid hll
    clear hll
    go_enter Try.func16, Try.ntmps16
    go_wp2
    go_ret
    refine ⟨ret_bool ?_, by go_grown⟩
    rw [eq_comm, decide_eq_false_iff_not]
    rintro rfl
    exact HL.out rfl

structure Ty.Alike (a b : Ty) : Prop where
  name : a.name = b.name
  perm : a.perm = b.perm
  aln : a.aln = b.aln

set_option maxHeartbeats 1000000 in
theorem types_any (v v' : Value) (l l' : List Ty) (w : World) (h : SliceAt w v 3 l.length (tyCells l)) (h' : SliceAt w v' 3 l'.length (tyCells l'))
    (hll : l.length = l'.length) (hal : ∀ (i : Nat) (a b : Ty), l[i]? = some a → l'[i]? = some b → a.Alike b) :
    Calls Try.prog 18 #[v, v'] w fun e w' => e = .returned (.bool true) ∧ Below w.heap.size w w' := by
  obtain ⟨a, c, rfl, hm, ha⟩ := tyOpen h
  obtain ⟨a', c', rfl, hm', ha'⟩ := tyOpen h'
  clear h h'
  have HA := Lib.hid ha
  have HA' := Lib.hid ha'
  have HAL := Lib.hid hal
  clear ha ha' hal
  have HL := Lib.hid hll
  have ht : ((l.length : Int) != l'.length) = false := by simp [hll]
  clear hll
  go_enter Try.func18, Try.ntmps18
  go_wp2
  go_loopw [13] (fun i wr => ∃ k : Nat, k ≤ l.length ∧ i = .int .i64 k ∧ Below w.heap.size w wr) (fun i _ => l.length - (intOf i).toNat)
  case atStart => exact ⟨0, by omega, rfl, by go_grown⟩
  case round =>
    obtain ⟨k, hk, rfl, hb⟩ := hrel
    by_cases hlt : k < l.length
    · obtain ⟨y, b, off, rfl, hy, k0, k1, k2⟩ := HA.out k hlt
      obtain ⟨y', b', off', rfl, hy', k0', k1', k2'⟩ := HA'.out k (by rw [← HL.out]; exact hlt)
      have hlt' : k < l'.length := by rw [← HL.out]; exact hlt
      obtain ⟨e1, e2, e3⟩ := HAL.out k y y' hy hy'
      rw [← e1] at k0'
      rw [← e2] at k2'
      rw [← e3] at k1'
      replace k0 := cell_later hb k0
      replace k0' := cell_later hb k0'
      replace k1 := cell_later hb k1
      replace k1' := cell_later hb k1'
      replace k2 := cell_later hb k2
      replace k2' := cell_later hb k2'
      clear hy hy' e1 e2 e3
      go_wp2
      go_quiet (fail)
      go_wp2
      go_roundw
      case rel => exact ⟨k + 1, by omega, by go_num, below_drewN hb _⟩
      case measure => simp [intOf]; omega
    · go_wp2
      go_ret
      exact ⟨rfl, hb⟩
end Go.Proofs.Ytjpfnndfhbglgaa
