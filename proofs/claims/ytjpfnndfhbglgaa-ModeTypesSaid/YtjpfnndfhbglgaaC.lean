import Derived.WalkKit
import Derived.WalkSpells
import Derived.WalkLawsBesides
import Derived.Handy
import Derived.BigQuiet
import Derived.Outline
import Derived.Deep.RegionHeld3
import Derived.Deep.DeepCutAuto
import Derived.Deep.DeepMust
import Derived.Deep.DeepFit
import Derived.Deep.LoopGhost
import Derived.Lib.Hide
import Derived.IntWalk
import Derived.Lib.SliceRun
import Derived.Test.YtjpfnndfhbglgaaRows
import Derived.Test.YtjpfnndfhbglgaaL
/-
  THE CONTRACTS OF slices.Clone, AT EACH ELEMENT TYPE (printed by a program).
-/
namespace Go.Proofs.Ytjpfnndfhbglgaa
open Go.RowKit

/-- What a clone is: a row of the call's own with the same cells, nil if the argument is. -/
def Cloned (w : World) (e : TypeId) (v : Value) (k n : Nat) (cs : List Value) (en : Ending) (w' : World) : Prop :=
  ∃ a c, en = .returned (.slice a n c) ∧ w'.ownsRow w.heap.size e k (.slice a n c) n cs ∧ (a = none ↔ v = .slice none 0 0) ∧ Below w.heap.size w w'

theorem Cloned.mk' {w : World} {e : TypeId} {v : Value} {k n : Nat} {cs : List Value} {v' : Value} {w' : World} (h : w'.ownsRow w.heap.size e k v' n cs) (hn : v' = .slice none 0 0 ↔ v = .slice none 0 0) (hb : Below w.heap.size w w') :
    Cloned w e v k n cs (.returned v') w' := by
  rcases h.2 with ⟨rfl, rfl⟩ | ⟨g, cap, cur, rfl, _⟩
  · exact ⟨none, 0, rfl, h, by simpa using hn, hb⟩
  · exact ⟨_, cap, rfl, h, by simpa using hn, hb⟩


theorem info67 : ∃ i z, Try.prog.info? 67 = some i ∧ i.zero = some z ∧ i.size = 2 ∧ i.bytes = 40 ∧ z.cells.size = 2 := infoOf (by kernel_rfl)
set_option maxHeartbeats 400000 in
theorem clone24 (v : Value) (n : Nat) (cs : List Value) (w : World) (h : SliceAt w v 2 n cs) (hb : n * 40 ≤ 140737488355328) :
    Calls Try.prog 24 #[v] w (Cloned w 67 v 2 n cs) := by
  obtain ⟨hl, hm, h1, ⟨rfl, rfl⟩ | ⟨a, c, rfl, -, hc⟩⟩ := h
  · obtain rfl : cs = [] := List.eq_nil_of_length_eq_zero (by simpa using hl)
    have q := fun (w : World) (a : Option Addr) (n c n' c' : Nat) => Lib.run_eql_slice_nil (P := Try.prog) w _ _ a n c n' c' Try.underlying31
    go_enter Try.func24, Try.ntmps24
    go_wp2
    go_ret
    exact Cloned.mk' (World.ownsRow_nil _ _ _ _) Iff.rfl (Below.refl _ _)
  · obtain ⟨i0, z, hi, hz0, hz1, hz2, hzs⟩ := info67
    have q := fun (w : World) (a : Option Addr) (n c n' c' : Nat) => Lib.run_eql_slice_nil (P := Try.prog) w _ _ a n c n' c' Try.underlying31
    have A := Lib.hid hc
    clear hc
    go_enter Try.func24, Try.ntmps24
    go_wp2_with (at_builtin; refine wpList_append_own _ rfl _ _ 31 rfl w.heap.size 67 i0 z 2 40 Try.underlying31 hi hz0 hz1 hz2 hzs (by decide) _ _ _ rfl (World.ownsRow_made w #[] 0 (Nat.le_refl _) (Nat.zero_le _) (by simp)) a n c cs rfl ?qc1 ?qc2 ?qc3 ?qc4 ?qc5 ?qc6 ?_)
    case qc1 => exact hl
    case qc2 =>
      intro j u hj
      exact Lib.cell?_alloc_some _ (A.out j u hj)
    case qc3 => exact h1
    case qc4 => rw [Nat.zero_add]; exact hm
    case qc5 => rw [Nat.zero_add]; exact hb
    case qc6 => simp
    intro v' w1 hown hgrow hnil
    go_wp2
    go_ret
    refine Cloned.mk' (by simpa using hown) ?_ ?_
    · simpa using hnil
    · exact ((Below.refl _ w).alloc (Nat.le_refl _) _).grown hgrow (by simp) (by intro k hk; simp [Value.ownBlock] at hk; omega)

theorem info62 : ∃ i z, Try.prog.info? 62 = some i ∧ i.zero = some z ∧ i.size = 3 ∧ i.bytes = 48 ∧ z.cells.size = 3 := infoOf (by kernel_rfl)
set_option maxHeartbeats 400000 in
theorem clone25 (v : Value) (n : Nat) (cs : List Value) (w : World) (h : SliceAt w v 3 n cs) (hb : n * 48 ≤ 140737488355328) :
    Calls Try.prog 25 #[v] w (Cloned w 62 v 3 n cs) := by
  obtain ⟨hl, hm, h1, ⟨rfl, rfl⟩ | ⟨a, c, rfl, -, hc⟩⟩ := h
  · obtain rfl : cs = [] := List.eq_nil_of_length_eq_zero (by simpa using hl)
    have q := fun (w : World) (a : Option Addr) (n c n' c' : Nat) => Lib.run_eql_slice_nil (P := Try.prog) w _ _ a n c n' c' Try.underlying32
    go_enter Try.func25, Try.ntmps25
    go_wp2
    go_ret
    exact Cloned.mk' (World.ownsRow_nil _ _ _ _) Iff.rfl (Below.refl _ _)
  · obtain ⟨i0, z, hi, hz0, hz1, hz2, hzs⟩ := info62
    have q := fun (w : World) (a : Option Addr) (n c n' c' : Nat) => Lib.run_eql_slice_nil (P := Try.prog) w _ _ a n c n' c' Try.underlying32
    have A := Lib.hid hc
    clear hc
    go_enter Try.func25, Try.ntmps25
    go_wp2_with (at_builtin; refine wpList_append_own _ rfl _ _ 32 rfl w.heap.size 62 i0 z 3 48 Try.underlying32 hi hz0 hz1 hz2 hzs (by decide) _ _ _ rfl (World.ownsRow_made w #[] 0 (Nat.le_refl _) (Nat.zero_le _) (by simp)) a n c cs rfl ?qc1 ?qc2 ?qc3 ?qc4 ?qc5 ?qc6 ?_)
    case qc1 => exact hl
    case qc2 =>
      intro j u hj
      exact Lib.cell?_alloc_some _ (A.out j u hj)
    case qc3 => exact h1
    case qc4 => rw [Nat.zero_add]; exact hm
    case qc5 => rw [Nat.zero_add]; exact hb
    case qc6 => simp
    intro v' w1 hown hgrow hnil
    go_wp2
    go_ret
    refine Cloned.mk' (by simpa using hown) ?_ ?_
    · simpa using hnil
    · exact ((Below.refl _ w).alloc (Nat.le_refl _) _).grown hgrow (by simp) (by intro k hk; simp [Value.ownBlock] at hk; omega)

theorem info74 : ∃ i z, Try.prog.info? 74 = some i ∧ i.zero = some z ∧ i.size = 5 ∧ i.bytes = 48 ∧ z.cells.size = 5 := infoOf (by kernel_rfl)
set_option maxHeartbeats 400000 in
theorem clone26 (v : Value) (n : Nat) (cs : List Value) (w : World) (h : SliceAt w v 5 n cs) (hb : n * 48 ≤ 140737488355328) :
    Calls Try.prog 26 #[v] w (Cloned w 74 v 5 n cs) := by
  obtain ⟨hl, hm, h1, ⟨rfl, rfl⟩ | ⟨a, c, rfl, -, hc⟩⟩ := h
  · obtain rfl : cs = [] := List.eq_nil_of_length_eq_zero (by simpa using hl)
    have q := fun (w : World) (a : Option Addr) (n c n' c' : Nat) => Lib.run_eql_slice_nil (P := Try.prog) w _ _ a n c n' c' Try.underlying33
    go_enter Try.func26, Try.ntmps26
    go_wp2
    go_ret
    exact Cloned.mk' (World.ownsRow_nil _ _ _ _) Iff.rfl (Below.refl _ _)
  · obtain ⟨i0, z, hi, hz0, hz1, hz2, hzs⟩ := info74
    have q := fun (w : World) (a : Option Addr) (n c n' c' : Nat) => Lib.run_eql_slice_nil (P := Try.prog) w _ _ a n c n' c' Try.underlying33
    have A := Lib.hid hc
    clear hc
    go_enter Try.func26, Try.ntmps26
    go_wp2_with (at_builtin; refine wpList_append_own _ rfl _ _ 33 rfl w.heap.size 74 i0 z 5 48 Try.underlying33 hi hz0 hz1 hz2 hzs (by decide) _ _ _ rfl (World.ownsRow_made w #[] 0 (Nat.le_refl _) (Nat.zero_le _) (by simp)) a n c cs rfl ?qc1 ?qc2 ?qc3 ?qc4 ?qc5 ?qc6 ?_)
    case qc1 => exact hl
    case qc2 =>
      intro j u hj
      exact Lib.cell?_alloc_some _ (A.out j u hj)
    case qc3 => exact h1
    case qc4 => rw [Nat.zero_add]; exact hm
    case qc5 => rw [Nat.zero_add]; exact hb
    case qc6 => simp
    intro v' w1 hown hgrow hnil
    go_wp2
    go_ret
    refine Cloned.mk' (by simpa using hown) ?_ ?_
    · simpa using hnil
    · exact ((Below.refl _ w).alloc (Nat.le_refl _) _).grown hgrow (by simp) (by intro k hk; simp [Value.ownBlock] at hk; omega)

theorem info9 : ∃ i z, Try.prog.info? 9 = some i ∧ i.zero = some z ∧ i.size = 1 ∧ i.bytes = 16 ∧ z.cells.size = 1 := infoOf (by kernel_rfl)
set_option maxHeartbeats 400000 in
theorem clone27 (v : Value) (n : Nat) (cs : List Value) (w : World) (h : SliceAt w v 1 n cs) (hb : n * 16 ≤ 140737488355328) :
    Calls Try.prog 27 #[v] w (Cloned w 9 v 1 n cs) := by
  obtain ⟨hl, hm, h1, ⟨rfl, rfl⟩ | ⟨a, c, rfl, -, hc⟩⟩ := h
  · obtain rfl : cs = [] := List.eq_nil_of_length_eq_zero (by simpa using hl)
    have q := fun (w : World) (a : Option Addr) (n c n' c' : Nat) => Lib.run_eql_slice_nil (P := Try.prog) w _ _ a n c n' c' Try.underlying37
    go_enter Try.func27, Try.ntmps27
    go_wp2
    go_ret
    exact Cloned.mk' (World.ownsRow_nil _ _ _ _) Iff.rfl (Below.refl _ _)
  · obtain ⟨i0, z, hi, hz0, hz1, hz2, hzs⟩ := info9
    have q := fun (w : World) (a : Option Addr) (n c n' c' : Nat) => Lib.run_eql_slice_nil (P := Try.prog) w _ _ a n c n' c' Try.underlying37
    have A := Lib.hid hc
    clear hc
    go_enter Try.func27, Try.ntmps27
    go_wp2_with (at_builtin; refine wpList_append_own _ rfl _ _ 37 rfl w.heap.size 9 i0 z 1 16 Try.underlying37 hi hz0 hz1 hz2 hzs (by decide) _ _ _ rfl (World.ownsRow_made w #[] 0 (Nat.le_refl _) (Nat.zero_le _) (by simp)) a n c cs rfl ?qc1 ?qc2 ?qc3 ?qc4 ?qc5 ?qc6 ?_)
    case qc1 => exact hl
    case qc2 =>
      intro j u hj
      exact Lib.cell?_alloc_some _ (A.out j u hj)
    case qc3 => exact h1
    case qc4 => rw [Nat.zero_add]; exact hm
    case qc5 => rw [Nat.zero_add]; exact hb
    case qc6 => simp
    intro v' w1 hown hgrow hnil
    go_wp2
    go_ret
    refine Cloned.mk' (by simpa using hown) ?_ ?_
    · simpa using hnil
    · exact ((Below.refl _ w).alloc (Nat.le_refl _) _).grown hgrow (by simp) (by intro k hk; simp [Value.ownBlock] at hk; omega)

theorem info78 : ∃ i z, Try.prog.info? 78 = some i ∧ i.zero = some z ∧ i.size = 9 ∧ i.bytes = 80 ∧ z.cells.size = 9 := infoOf (by kernel_rfl)
set_option maxHeartbeats 400000 in
theorem clone28 (v : Value) (n : Nat) (cs : List Value) (w : World) (h : SliceAt w v 9 n cs) (hb : n * 80 ≤ 140737488355328) :
    Calls Try.prog 28 #[v] w (Cloned w 78 v 9 n cs) := by
  obtain ⟨hl, hm, h1, ⟨rfl, rfl⟩ | ⟨a, c, rfl, -, hc⟩⟩ := h
  · obtain rfl : cs = [] := List.eq_nil_of_length_eq_zero (by simpa using hl)
    have q := fun (w : World) (a : Option Addr) (n c n' c' : Nat) => Lib.run_eql_slice_nil (P := Try.prog) w _ _ a n c n' c' Try.underlying34
    go_enter Try.func28, Try.ntmps28
    go_wp2
    go_ret
    exact Cloned.mk' (World.ownsRow_nil _ _ _ _) Iff.rfl (Below.refl _ _)
  · obtain ⟨i0, z, hi, hz0, hz1, hz2, hzs⟩ := info78
    have q := fun (w : World) (a : Option Addr) (n c n' c' : Nat) => Lib.run_eql_slice_nil (P := Try.prog) w _ _ a n c n' c' Try.underlying34
    have A := Lib.hid hc
    clear hc
    go_enter Try.func28, Try.ntmps28
    go_wp2_with (at_builtin; refine wpList_append_own _ rfl _ _ 34 rfl w.heap.size 78 i0 z 9 80 Try.underlying34 hi hz0 hz1 hz2 hzs (by decide) _ _ _ rfl (World.ownsRow_made w #[] 0 (Nat.le_refl _) (Nat.zero_le _) (by simp)) a n c cs rfl ?qc1 ?qc2 ?qc3 ?qc4 ?qc5 ?qc6 ?_)
    case qc1 => exact hl
    case qc2 =>
      intro j u hj
      exact Lib.cell?_alloc_some _ (A.out j u hj)
    case qc3 => exact h1
    case qc4 => rw [Nat.zero_add]; exact hm
    case qc5 => rw [Nat.zero_add]; exact hb
    case qc6 => simp
    intro v' w1 hown hgrow hnil
    go_wp2
    go_ret
    refine Cloned.mk' (by simpa using hown) ?_ ?_
    · simpa using hnil
    · exact ((Below.refl _ w).alloc (Nat.le_refl _) _).grown hgrow (by simp) (by intro k hk; simp [Value.ownBlock] at hk; omega)

theorem info85 : ∃ i z, Try.prog.info? 85 = some i ∧ i.zero = some z ∧ i.size = 11 ∧ i.bytes = 96 ∧ z.cells.size = 11 := infoOf (by kernel_rfl)
set_option maxHeartbeats 400000 in
theorem clone29 (v : Value) (n : Nat) (cs : List Value) (w : World) (h : SliceAt w v 11 n cs) (hb : n * 96 ≤ 140737488355328) :
    Calls Try.prog 29 #[v] w (Cloned w 85 v 11 n cs) := by
  obtain ⟨hl, hm, h1, ⟨rfl, rfl⟩ | ⟨a, c, rfl, -, hc⟩⟩ := h
  · obtain rfl : cs = [] := List.eq_nil_of_length_eq_zero (by simpa using hl)
    have q := fun (w : World) (a : Option Addr) (n c n' c' : Nat) => Lib.run_eql_slice_nil (P := Try.prog) w _ _ a n c n' c' Try.underlying35
    go_enter Try.func29, Try.ntmps29
    go_wp2
    go_ret
    exact Cloned.mk' (World.ownsRow_nil _ _ _ _) Iff.rfl (Below.refl _ _)
  · obtain ⟨i0, z, hi, hz0, hz1, hz2, hzs⟩ := info85
    have q := fun (w : World) (a : Option Addr) (n c n' c' : Nat) => Lib.run_eql_slice_nil (P := Try.prog) w _ _ a n c n' c' Try.underlying35
    have A := Lib.hid hc
    clear hc
    go_enter Try.func29, Try.ntmps29
    go_wp2_with (at_builtin; refine wpList_append_own _ rfl _ _ 35 rfl w.heap.size 85 i0 z 11 96 Try.underlying35 hi hz0 hz1 hz2 hzs (by decide) _ _ _ rfl (World.ownsRow_made w #[] 0 (Nat.le_refl _) (Nat.zero_le _) (by simp)) a n c cs rfl ?qc1 ?qc2 ?qc3 ?qc4 ?qc5 ?qc6 ?_)
    case qc1 => exact hl
    case qc2 =>
      intro j u hj
      exact Lib.cell?_alloc_some _ (A.out j u hj)
    case qc3 => exact h1
    case qc4 => rw [Nat.zero_add]; exact hm
    case qc5 => rw [Nat.zero_add]; exact hb
    case qc6 => simp
    intro v' w1 hown hgrow hnil
    go_wp2
    go_ret
    refine Cloned.mk' (by simpa using hown) ?_ ?_
    · simpa using hnil
    · exact ((Below.refl _ w).alloc (Nat.le_refl _) _).grown hgrow (by simp) (by intro k hk; simp [Value.ownBlock] at hk; omega)

theorem info88 : ∃ i z, Try.prog.info? 88 = some i ∧ i.zero = some z ∧ i.size = 2 ∧ i.bytes = 24 ∧ z.cells.size = 2 := infoOf (by kernel_rfl)
set_option maxHeartbeats 400000 in
theorem clone30 (v : Value) (n : Nat) (cs : List Value) (w : World) (h : SliceAt w v 2 n cs) (hb : n * 24 ≤ 140737488355328) :
    Calls Try.prog 30 #[v] w (Cloned w 88 v 2 n cs) := by
  obtain ⟨hl, hm, h1, ⟨rfl, rfl⟩ | ⟨a, c, rfl, -, hc⟩⟩ := h
  · obtain rfl : cs = [] := List.eq_nil_of_length_eq_zero (by simpa using hl)
    have q := fun (w : World) (a : Option Addr) (n c n' c' : Nat) => Lib.run_eql_slice_nil (P := Try.prog) w _ _ a n c n' c' Try.underlying36
    go_enter Try.func30, Try.ntmps30
    go_wp2
    go_ret
    exact Cloned.mk' (World.ownsRow_nil _ _ _ _) Iff.rfl (Below.refl _ _)
  · obtain ⟨i0, z, hi, hz0, hz1, hz2, hzs⟩ := info88
    have q := fun (w : World) (a : Option Addr) (n c n' c' : Nat) => Lib.run_eql_slice_nil (P := Try.prog) w _ _ a n c n' c' Try.underlying36
    have A := Lib.hid hc
    clear hc
    go_enter Try.func30, Try.ntmps30
    go_wp2_with (at_builtin; refine wpList_append_own _ rfl _ _ 36 rfl w.heap.size 88 i0 z 2 24 Try.underlying36 hi hz0 hz1 hz2 hzs (by decide) _ _ _ rfl (World.ownsRow_made w #[] 0 (Nat.le_refl _) (Nat.zero_le _) (by simp)) a n c cs rfl ?qc1 ?qc2 ?qc3 ?qc4 ?qc5 ?qc6 ?_)
    case qc1 => exact hl
    case qc2 =>
      intro j u hj
      exact Lib.cell?_alloc_some _ (A.out j u hj)
    case qc3 => exact h1
    case qc4 => rw [Nat.zero_add]; exact hm
    case qc5 => rw [Nat.zero_add]; exact hb
    case qc6 => simp
    intro v' w1 hown hgrow hnil
    go_wp2
    go_ret
    refine Cloned.mk' (by simpa using hown) ?_ ?_
    · simpa using hnil
    · exact ((Below.refl _ w).alloc (Nat.le_refl _) _).grown hgrow (by simp) (by intro k hk; simp [Value.ownBlock] at hk; omega)

theorem info91 : ∃ i z, Try.prog.info? 91 = some i ∧ i.zero = some z ∧ i.size = 10 ∧ i.bytes = 112 ∧ z.cells.size = 10 := infoOf (by kernel_rfl)
set_option maxHeartbeats 400000 in
theorem clone31 (v : Value) (n : Nat) (cs : List Value) (w : World) (h : SliceAt w v 10 n cs) (hb : n * 112 ≤ 140737488355328) :
    Calls Try.prog 31 #[v] w (Cloned w 91 v 10 n cs) := by
  obtain ⟨hl, hm, h1, ⟨rfl, rfl⟩ | ⟨a, c, rfl, -, hc⟩⟩ := h
  · obtain rfl : cs = [] := List.eq_nil_of_length_eq_zero (by simpa using hl)
    have q := fun (w : World) (a : Option Addr) (n c n' c' : Nat) => Lib.run_eql_slice_nil (P := Try.prog) w _ _ a n c n' c' Try.underlying38
    go_enter Try.func31, Try.ntmps31
    go_wp2
    go_ret
    exact Cloned.mk' (World.ownsRow_nil _ _ _ _) Iff.rfl (Below.refl _ _)
  · obtain ⟨i0, z, hi, hz0, hz1, hz2, hzs⟩ := info91
    have q := fun (w : World) (a : Option Addr) (n c n' c' : Nat) => Lib.run_eql_slice_nil (P := Try.prog) w _ _ a n c n' c' Try.underlying38
    have A := Lib.hid hc
    clear hc
    go_enter Try.func31, Try.ntmps31
    go_wp2_with (at_builtin; refine wpList_append_own _ rfl _ _ 38 rfl w.heap.size 91 i0 z 10 112 Try.underlying38 hi hz0 hz1 hz2 hzs (by decide) _ _ _ rfl (World.ownsRow_made w #[] 0 (Nat.le_refl _) (Nat.zero_le _) (by simp)) a n c cs rfl ?qc1 ?qc2 ?qc3 ?qc4 ?qc5 ?qc6 ?_)
    case qc1 => exact hl
    case qc2 =>
      intro j u hj
      exact Lib.cell?_alloc_some _ (A.out j u hj)
    case qc3 => exact h1
    case qc4 => rw [Nat.zero_add]; exact hm
    case qc5 => rw [Nat.zero_add]; exact hb
    case qc6 => simp
    intro v' w1 hown hgrow hnil
    go_wp2
    go_ret
    refine Cloned.mk' (by simpa using hown) ?_ ?_
    · simpa using hnil
    · exact ((Below.refl _ w).alloc (Nat.le_refl _) _).grown hgrow (by simp) (by intro k hk; simp [Value.ownBlock] at hk; omega)

theorem info95 : ∃ i z, Try.prog.info? 95 = some i ∧ i.zero = some z ∧ i.size = 13 ∧ i.bytes = 104 ∧ z.cells.size = 13 := infoOf (by kernel_rfl)
set_option maxHeartbeats 400000 in
theorem clone33 (v : Value) (n : Nat) (cs : List Value) (w : World) (h : SliceAt w v 13 n cs) (hb : n * 104 ≤ 140737488355328) :
    Calls Try.prog 33 #[v] w (Cloned w 95 v 13 n cs) := by
  obtain ⟨hl, hm, h1, ⟨rfl, rfl⟩ | ⟨a, c, rfl, -, hc⟩⟩ := h
  · obtain rfl : cs = [] := List.eq_nil_of_length_eq_zero (by simpa using hl)
    have q := fun (w : World) (a : Option Addr) (n c n' c' : Nat) => Lib.run_eql_slice_nil (P := Try.prog) w _ _ a n c n' c' Try.underlying39
    go_enter Try.func33, Try.ntmps33
    go_wp2
    go_ret
    exact Cloned.mk' (World.ownsRow_nil _ _ _ _) Iff.rfl (Below.refl _ _)
  · obtain ⟨i0, z, hi, hz0, hz1, hz2, hzs⟩ := info95
    have q := fun (w : World) (a : Option Addr) (n c n' c' : Nat) => Lib.run_eql_slice_nil (P := Try.prog) w _ _ a n c n' c' Try.underlying39
    have A := Lib.hid hc
    clear hc
    go_enter Try.func33, Try.ntmps33
    go_wp2_with (at_builtin; refine wpList_append_own _ rfl _ _ 39 rfl w.heap.size 95 i0 z 13 104 Try.underlying39 hi hz0 hz1 hz2 hzs (by decide) _ _ _ rfl (World.ownsRow_made w #[] 0 (Nat.le_refl _) (Nat.zero_le _) (by simp)) a n c cs rfl ?qc1 ?qc2 ?qc3 ?qc4 ?qc5 ?qc6 ?_)
    case qc1 => exact hl
    case qc2 =>
      intro j u hj
      exact Lib.cell?_alloc_some _ (A.out j u hj)
    case qc3 => exact h1
    case qc4 => rw [Nat.zero_add]; exact hm
    case qc5 => rw [Nat.zero_add]; exact hb
    case qc6 => simp
    intro v' w1 hown hgrow hnil
    go_wp2
    go_ret
    refine Cloned.mk' (by simpa using hown) ?_ ?_
    · simpa using hnil
    · exact ((Below.refl _ w).alloc (Nat.le_refl _) _).grown hgrow (by simp) (by intro k hk; simp [Value.ownBlock] at hk; omega)

theorem info98 : ∃ i z, Try.prog.info? 98 = some i ∧ i.zero = some z ∧ i.size = 13 ∧ i.bytes = 112 ∧ z.cells.size = 13 := infoOf (by kernel_rfl)
set_option maxHeartbeats 400000 in
theorem clone34 (v : Value) (n : Nat) (cs : List Value) (w : World) (h : SliceAt w v 13 n cs) (hb : n * 112 ≤ 140737488355328) :
    Calls Try.prog 34 #[v] w (Cloned w 98 v 13 n cs) := by
  obtain ⟨hl, hm, h1, ⟨rfl, rfl⟩ | ⟨a, c, rfl, -, hc⟩⟩ := h
  · obtain rfl : cs = [] := List.eq_nil_of_length_eq_zero (by simpa using hl)
    have q := fun (w : World) (a : Option Addr) (n c n' c' : Nat) => Lib.run_eql_slice_nil (P := Try.prog) w _ _ a n c n' c' Try.underlying40
    go_enter Try.func34, Try.ntmps34
    go_wp2
    go_ret
    exact Cloned.mk' (World.ownsRow_nil _ _ _ _) Iff.rfl (Below.refl _ _)
  · obtain ⟨i0, z, hi, hz0, hz1, hz2, hzs⟩ := info98
    have q := fun (w : World) (a : Option Addr) (n c n' c' : Nat) => Lib.run_eql_slice_nil (P := Try.prog) w _ _ a n c n' c' Try.underlying40
    have A := Lib.hid hc
    clear hc
    go_enter Try.func34, Try.ntmps34
    go_wp2_with (at_builtin; refine wpList_append_own _ rfl _ _ 40 rfl w.heap.size 98 i0 z 13 112 Try.underlying40 hi hz0 hz1 hz2 hzs (by decide) _ _ _ rfl (World.ownsRow_made w #[] 0 (Nat.le_refl _) (Nat.zero_le _) (by simp)) a n c cs rfl ?qc1 ?qc2 ?qc3 ?qc4 ?qc5 ?qc6 ?_)
    case qc1 => exact hl
    case qc2 =>
      intro j u hj
      exact Lib.cell?_alloc_some _ (A.out j u hj)
    case qc3 => exact h1
    case qc4 => rw [Nat.zero_add]; exact hm
    case qc5 => rw [Nat.zero_add]; exact hb
    case qc6 => simp
    intro v' w1 hown hgrow hnil
    go_wp2
    go_ret
    refine Cloned.mk' (by simpa using hown) ?_ ?_
    · simpa using hnil
    · exact ((Below.refl _ w).alloc (Nat.le_refl _) _).grown hgrow (by simp) (by intro k hk; simp [Value.ownBlock] at hk; omega)

theorem info101 : ∃ i z, Try.prog.info? 101 = some i ∧ i.zero = some z ∧ i.size = 10 ∧ i.bytes = 80 ∧ z.cells.size = 10 := infoOf (by kernel_rfl)
set_option maxHeartbeats 400000 in
theorem clone35 (v : Value) (n : Nat) (cs : List Value) (w : World) (h : SliceAt w v 10 n cs) (hb : n * 80 ≤ 140737488355328) :
    Calls Try.prog 35 #[v] w (Cloned w 101 v 10 n cs) := by
  obtain ⟨hl, hm, h1, ⟨rfl, rfl⟩ | ⟨a, c, rfl, -, hc⟩⟩ := h
  · obtain rfl : cs = [] := List.eq_nil_of_length_eq_zero (by simpa using hl)
    have q := fun (w : World) (a : Option Addr) (n c n' c' : Nat) => Lib.run_eql_slice_nil (P := Try.prog) w _ _ a n c n' c' Try.underlying41
    go_enter Try.func35, Try.ntmps35
    go_wp2
    go_ret
    exact Cloned.mk' (World.ownsRow_nil _ _ _ _) Iff.rfl (Below.refl _ _)
  · obtain ⟨i0, z, hi, hz0, hz1, hz2, hzs⟩ := info101
    have q := fun (w : World) (a : Option Addr) (n c n' c' : Nat) => Lib.run_eql_slice_nil (P := Try.prog) w _ _ a n c n' c' Try.underlying41
    have A := Lib.hid hc
    clear hc
    go_enter Try.func35, Try.ntmps35
    go_wp2_with (at_builtin; refine wpList_append_own _ rfl _ _ 41 rfl w.heap.size 101 i0 z 10 80 Try.underlying41 hi hz0 hz1 hz2 hzs (by decide) _ _ _ rfl (World.ownsRow_made w #[] 0 (Nat.le_refl _) (Nat.zero_le _) (by simp)) a n c cs rfl ?qc1 ?qc2 ?qc3 ?qc4 ?qc5 ?qc6 ?_)
    case qc1 => exact hl
    case qc2 =>
      intro j u hj
      exact Lib.cell?_alloc_some _ (A.out j u hj)
    case qc3 => exact h1
    case qc4 => rw [Nat.zero_add]; exact hm
    case qc5 => rw [Nat.zero_add]; exact hb
    case qc6 => simp
    intro v' w1 hown hgrow hnil
    go_wp2
    go_ret
    refine Cloned.mk' (by simpa using hown) ?_ ?_
    · simpa using hnil
    · exact ((Below.refl _ w).alloc (Nat.le_refl _) _).grown hgrow (by simp) (by intro k hk; simp [Value.ownBlock] at hk; omega)

theorem info104 : ∃ i z, Try.prog.info? 104 = some i ∧ i.zero = some z ∧ i.size = 13 ∧ i.bytes = 104 ∧ z.cells.size = 13 := infoOf (by kernel_rfl)
set_option maxHeartbeats 400000 in
theorem clone36 (v : Value) (n : Nat) (cs : List Value) (w : World) (h : SliceAt w v 13 n cs) (hb : n * 104 ≤ 140737488355328) :
    Calls Try.prog 36 #[v] w (Cloned w 104 v 13 n cs) := by
  obtain ⟨hl, hm, h1, ⟨rfl, rfl⟩ | ⟨a, c, rfl, -, hc⟩⟩ := h
  · obtain rfl : cs = [] := List.eq_nil_of_length_eq_zero (by simpa using hl)
    have q := fun (w : World) (a : Option Addr) (n c n' c' : Nat) => Lib.run_eql_slice_nil (P := Try.prog) w _ _ a n c n' c' Try.underlying42
    go_enter Try.func36, Try.ntmps36
    go_wp2
    go_ret
    exact Cloned.mk' (World.ownsRow_nil _ _ _ _) Iff.rfl (Below.refl _ _)
  · obtain ⟨i0, z, hi, hz0, hz1, hz2, hzs⟩ := info104
    have q := fun (w : World) (a : Option Addr) (n c n' c' : Nat) => Lib.run_eql_slice_nil (P := Try.prog) w _ _ a n c n' c' Try.underlying42
    have A := Lib.hid hc
    clear hc
    go_enter Try.func36, Try.ntmps36
    go_wp2_with (at_builtin; refine wpList_append_own _ rfl _ _ 42 rfl w.heap.size 104 i0 z 13 104 Try.underlying42 hi hz0 hz1 hz2 hzs (by decide) _ _ _ rfl (World.ownsRow_made w #[] 0 (Nat.le_refl _) (Nat.zero_le _) (by simp)) a n c cs rfl ?qc1 ?qc2 ?qc3 ?qc4 ?qc5 ?qc6 ?_)
    case qc1 => exact hl
    case qc2 =>
      intro j u hj
      exact Lib.cell?_alloc_some _ (A.out j u hj)
    case qc3 => exact h1
    case qc4 => rw [Nat.zero_add]; exact hm
    case qc5 => rw [Nat.zero_add]; exact hb
    case qc6 => simp
    intro v' w1 hown hgrow hnil
    go_wp2
    go_ret
    refine Cloned.mk' (by simpa using hown) ?_ ?_
    · simpa using hnil
    · exact ((Below.refl _ w).alloc (Nat.le_refl _) _).grown hgrow (by simp) (by intro k hk; simp [Value.ownBlock] at hk; omega)

theorem info107 : ∃ i z, Try.prog.info? 107 = some i ∧ i.zero = some z ∧ i.size = 13 ∧ i.bytes = 128 ∧ z.cells.size = 13 := infoOf (by kernel_rfl)
set_option maxHeartbeats 400000 in
theorem clone37 (v : Value) (n : Nat) (cs : List Value) (w : World) (h : SliceAt w v 13 n cs) (hb : n * 128 ≤ 140737488355328) :
    Calls Try.prog 37 #[v] w (Cloned w 107 v 13 n cs) := by
  obtain ⟨hl, hm, h1, ⟨rfl, rfl⟩ | ⟨a, c, rfl, -, hc⟩⟩ := h
  · obtain rfl : cs = [] := List.eq_nil_of_length_eq_zero (by simpa using hl)
    have q := fun (w : World) (a : Option Addr) (n c n' c' : Nat) => Lib.run_eql_slice_nil (P := Try.prog) w _ _ a n c n' c' Try.underlying43
    go_enter Try.func37, Try.ntmps37
    go_wp2
    go_ret
    exact Cloned.mk' (World.ownsRow_nil _ _ _ _) Iff.rfl (Below.refl _ _)
  · obtain ⟨i0, z, hi, hz0, hz1, hz2, hzs⟩ := info107
    have q := fun (w : World) (a : Option Addr) (n c n' c' : Nat) => Lib.run_eql_slice_nil (P := Try.prog) w _ _ a n c n' c' Try.underlying43
    have A := Lib.hid hc
    clear hc
    go_enter Try.func37, Try.ntmps37
    go_wp2_with (at_builtin; refine wpList_append_own _ rfl _ _ 43 rfl w.heap.size 107 i0 z 13 128 Try.underlying43 hi hz0 hz1 hz2 hzs (by decide) _ _ _ rfl (World.ownsRow_made w #[] 0 (Nat.le_refl _) (Nat.zero_le _) (by simp)) a n c cs rfl ?qc1 ?qc2 ?qc3 ?qc4 ?qc5 ?qc6 ?_)
    case qc1 => exact hl
    case qc2 =>
      intro j u hj
      exact Lib.cell?_alloc_some _ (A.out j u hj)
    case qc3 => exact h1
    case qc4 => rw [Nat.zero_add]; exact hm
    case qc5 => rw [Nat.zero_add]; exact hb
    case qc6 => simp
    intro v' w1 hown hgrow hnil
    go_wp2
    go_ret
    refine Cloned.mk' (by simpa using hown) ?_ ?_
    · simpa using hnil
    · exact ((Below.refl _ w).alloc (Nat.le_refl _) _).grown hgrow (by simp) (by intro k hk; simp [Value.ownBlock] at hk; omega)

theorem info112 : ∃ i z, Try.prog.info? 112 = some i ∧ i.zero = some z ∧ i.size = 8 ∧ i.bytes = 72 ∧ z.cells.size = 8 := infoOf (by kernel_rfl)
set_option maxHeartbeats 400000 in
theorem clone38 (v : Value) (n : Nat) (cs : List Value) (w : World) (h : SliceAt w v 8 n cs) (hb : n * 72 ≤ 140737488355328) :
    Calls Try.prog 38 #[v] w (Cloned w 112 v 8 n cs) := by
  obtain ⟨hl, hm, h1, ⟨rfl, rfl⟩ | ⟨a, c, rfl, -, hc⟩⟩ := h
  · obtain rfl : cs = [] := List.eq_nil_of_length_eq_zero (by simpa using hl)
    have q := fun (w : World) (a : Option Addr) (n c n' c' : Nat) => Lib.run_eql_slice_nil (P := Try.prog) w _ _ a n c n' c' Try.underlying44
    go_enter Try.func38, Try.ntmps38
    go_wp2
    go_ret
    exact Cloned.mk' (World.ownsRow_nil _ _ _ _) Iff.rfl (Below.refl _ _)
  · obtain ⟨i0, z, hi, hz0, hz1, hz2, hzs⟩ := info112
    have q := fun (w : World) (a : Option Addr) (n c n' c' : Nat) => Lib.run_eql_slice_nil (P := Try.prog) w _ _ a n c n' c' Try.underlying44
    have A := Lib.hid hc
    clear hc
    go_enter Try.func38, Try.ntmps38
    go_wp2_with (at_builtin; refine wpList_append_own _ rfl _ _ 44 rfl w.heap.size 112 i0 z 8 72 Try.underlying44 hi hz0 hz1 hz2 hzs (by decide) _ _ _ rfl (World.ownsRow_made w #[] 0 (Nat.le_refl _) (Nat.zero_le _) (by simp)) a n c cs rfl ?qc1 ?qc2 ?qc3 ?qc4 ?qc5 ?qc6 ?_)
    case qc1 => exact hl
    case qc2 =>
      intro j u hj
      exact Lib.cell?_alloc_some _ (A.out j u hj)
    case qc3 => exact h1
    case qc4 => rw [Nat.zero_add]; exact hm
    case qc5 => rw [Nat.zero_add]; exact hb
    case qc6 => simp
    intro v' w1 hown hgrow hnil
    go_wp2
    go_ret
    refine Cloned.mk' (by simpa using hown) ?_ ?_
    · simpa using hnil
    · exact ((Below.refl _ w).alloc (Nat.le_refl _) _).grown hgrow (by simp) (by intro k hk; simp [Value.ownBlock] at hk; omega)

theorem info115 : ∃ i z, Try.prog.info? 115 = some i ∧ i.zero = some z ∧ i.size = 9 ∧ i.bytes = 80 ∧ z.cells.size = 9 := infoOf (by kernel_rfl)
set_option maxHeartbeats 400000 in
theorem clone39 (v : Value) (n : Nat) (cs : List Value) (w : World) (h : SliceAt w v 9 n cs) (hb : n * 80 ≤ 140737488355328) :
    Calls Try.prog 39 #[v] w (Cloned w 115 v 9 n cs) := by
  obtain ⟨hl, hm, h1, ⟨rfl, rfl⟩ | ⟨a, c, rfl, -, hc⟩⟩ := h
  · obtain rfl : cs = [] := List.eq_nil_of_length_eq_zero (by simpa using hl)
    have q := fun (w : World) (a : Option Addr) (n c n' c' : Nat) => Lib.run_eql_slice_nil (P := Try.prog) w _ _ a n c n' c' Try.underlying45
    go_enter Try.func39, Try.ntmps39
    go_wp2
    go_ret
    exact Cloned.mk' (World.ownsRow_nil _ _ _ _) Iff.rfl (Below.refl _ _)
  · obtain ⟨i0, z, hi, hz0, hz1, hz2, hzs⟩ := info115
    have q := fun (w : World) (a : Option Addr) (n c n' c' : Nat) => Lib.run_eql_slice_nil (P := Try.prog) w _ _ a n c n' c' Try.underlying45
    have A := Lib.hid hc
    clear hc
    go_enter Try.func39, Try.ntmps39
    go_wp2_with (at_builtin; refine wpList_append_own _ rfl _ _ 45 rfl w.heap.size 115 i0 z 9 80 Try.underlying45 hi hz0 hz1 hz2 hzs (by decide) _ _ _ rfl (World.ownsRow_made w #[] 0 (Nat.le_refl _) (Nat.zero_le _) (by simp)) a n c cs rfl ?qc1 ?qc2 ?qc3 ?qc4 ?qc5 ?qc6 ?_)
    case qc1 => exact hl
    case qc2 =>
      intro j u hj
      exact Lib.cell?_alloc_some _ (A.out j u hj)
    case qc3 => exact h1
    case qc4 => rw [Nat.zero_add]; exact hm
    case qc5 => rw [Nat.zero_add]; exact hb
    case qc6 => simp
    intro v' w1 hown hgrow hnil
    go_wp2
    go_ret
    refine Cloned.mk' (by simpa using hown) ?_ ?_
    · simpa using hnil
    · exact ((Below.refl _ w).alloc (Nat.le_refl _) _).grown hgrow (by simp) (by intro k hk; simp [Value.ownBlock] at hk; omega)

theorem info118 : ∃ i z, Try.prog.info? 118 = some i ∧ i.zero = some z ∧ i.size = 10 ∧ i.bytes = 88 ∧ z.cells.size = 10 := infoOf (by kernel_rfl)
set_option maxHeartbeats 400000 in
theorem clone40 (v : Value) (n : Nat) (cs : List Value) (w : World) (h : SliceAt w v 10 n cs) (hb : n * 88 ≤ 140737488355328) :
    Calls Try.prog 40 #[v] w (Cloned w 118 v 10 n cs) := by
  obtain ⟨hl, hm, h1, ⟨rfl, rfl⟩ | ⟨a, c, rfl, -, hc⟩⟩ := h
  · obtain rfl : cs = [] := List.eq_nil_of_length_eq_zero (by simpa using hl)
    have q := fun (w : World) (a : Option Addr) (n c n' c' : Nat) => Lib.run_eql_slice_nil (P := Try.prog) w _ _ a n c n' c' Try.underlying46
    go_enter Try.func40, Try.ntmps40
    go_wp2
    go_ret
    exact Cloned.mk' (World.ownsRow_nil _ _ _ _) Iff.rfl (Below.refl _ _)
  · obtain ⟨i0, z, hi, hz0, hz1, hz2, hzs⟩ := info118
    have q := fun (w : World) (a : Option Addr) (n c n' c' : Nat) => Lib.run_eql_slice_nil (P := Try.prog) w _ _ a n c n' c' Try.underlying46
    have A := Lib.hid hc
    clear hc
    go_enter Try.func40, Try.ntmps40
    go_wp2_with (at_builtin; refine wpList_append_own _ rfl _ _ 46 rfl w.heap.size 118 i0 z 10 88 Try.underlying46 hi hz0 hz1 hz2 hzs (by decide) _ _ _ rfl (World.ownsRow_made w #[] 0 (Nat.le_refl _) (Nat.zero_le _) (by simp)) a n c cs rfl ?qc1 ?qc2 ?qc3 ?qc4 ?qc5 ?qc6 ?_)
    case qc1 => exact hl
    case qc2 =>
      intro j u hj
      exact Lib.cell?_alloc_some _ (A.out j u hj)
    case qc3 => exact h1
    case qc4 => rw [Nat.zero_add]; exact hm
    case qc5 => rw [Nat.zero_add]; exact hb
    case qc6 => simp
    intro v' w1 hown hgrow hnil
    go_wp2
    go_ret
    refine Cloned.mk' (by simpa using hown) ?_ ?_
    · simpa using hnil
    · exact ((Below.refl _ w).alloc (Nat.le_refl _) _).grown hgrow (by simp) (by intro k hk; simp [Value.ownBlock] at hk; omega)

end Go.Proofs.Ytjpfnndfhbglgaa
