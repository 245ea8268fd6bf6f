import Derived.WalkKit
import Derived.WalkSpells
import Derived.WalkLawsBesides
import Derived.Handy
import Derived.BigQuiet
import Derived.Outline
import Derived.Deep.RegionHeld3
import Derived.Deep.DeepCutAuto
import Derived.Deep.DeepMust
import Derived.Deep.DeepFit
import Derived.Deep.LoopGhost
import Derived.Lib.Hide
import Derived.IntWalk
import Derived.Test.YtjpfnndfhbglgaaC
/-
  THE CONTRACTS OF THE LOOPS THAT ONLY READ.
-/
namespace Go.Proofs.Ytjpfnndfhbglgaa
open Go.RowKit

def intCells (l : List Int) : List Value := l.map (.int .i64)

theorem intsOpen {w : World} {v : Value} {l : List Int} (h : SliceAt w v 1 l.length (intCells l)) :
    ∃ a c, v = .slice a l.length c ∧ l.length ≤ 9223372036854775807 ∧ ∀ k : Nat, k < l.length → ∃ (y : Int) (b off : Nat), a = some ⟨b, off, none⟩ ∧ l[k]? = some y ∧ w.cell? ⟨b, off + k, none⟩ = some (.int .i64 y) := by
  obtain ⟨a, c, rfl, _, hm, ha⟩ := h.form (by omega)
  refine ⟨a, c, rfl, hm, fun k hk => ?_⟩
  obtain ⟨b, off, rfl, hc⟩ := ha k hk
  exact ⟨l[k], b, off, rfl, List.getElem?_eq_getElem hk, by simpa using hc 0 _ (by simp [intCells, hk])⟩

/-- Where the first n stands: -1 if nowhere. -/
def indexOf : List Int → Int → Int
  | [], _ => -1
  | y :: l, x => if x = y then 0 else if indexOf l x < 0 then -1 else indexOf l x + 1

theorem indexOf_neg {l : List Int} {x : Int} (h : ∀ i, i < l.length → l[i]? ≠ some x) : indexOf l x = -1 := by
  induction l with
  | nil => rfl
  | cons y l ih =>
    have h0 := h 0 (by simp)
    have := ih fun i hi => by simpa using h (i + 1) (by simpa using hi)
    simp only [List.getElem?_cons_zero, ne_eq, Option.some.injEq] at h0
    simp [indexOf, this, Ne.symm h0]

theorem indexOf_at {l : List Int} {x : Int} (k : Nat) (h : ∀ i, i < k → l[i]? ≠ some x) (hx : l[k]? = some x) : indexOf l x = k := by
  induction l generalizing k with
  | nil => simp at hx
  | cons y l ih =>
    cases k with
    | zero => simp at hx; simp [indexOf, hx]
    | succ k =>
      have h0 := h 0 (by omega)
      have := ih k (fun i hi => by simpa using h (i + 1) (by omega)) (by simpa using hx)
      simp only [List.getElem?_cons_zero, ne_eq, Option.some.injEq] at h0
      simp only [indexOf, if_neg (Ne.symm h0), this]
      rw [if_neg (by omega)]
      simp

theorem indexOf_ge {l : List Int} {x : Int} : (0 ≤ indexOf l x) ↔ x ∈ l := by
  induction l with
  | nil => simp [indexOf]
  | cons y l ih =>
    simp only [indexOf, List.mem_cons]
    split
    · simp_all
    · rename_i h
      split
      · simp [h, ← ih]; omega
      · simp [h, ← ih]; omega


set_option maxHeartbeats 400000 in
theorem index_any (v : Value) (l : List Int) (x : Int) (w : World) (h : SliceAt w v 1 l.length (intCells l)) :
    Calls Try.prog 41 #[v, .int .i64 x] w fun e w' => e = .returned (.int .i64 (indexOf l x)) ∧ w = w' := by
  obtain ⟨a, c, rfl, hm, ha⟩ := intsOpen h
  have HA := Lib.hid ha
  clear ha h
  go_enter Try.func41, Try.ntmps41
  go_wp2
  go_loop [8] (fun i => ∃ k : Nat, k ≤ l.length ∧ i = .int .i64 k ∧ Hid (∀ i, i < k → l[i]? ≠ some x)) (fun i => l.length - (intOf i).toNat)
  case atStart => exact ⟨0, by omega, rfl, by intro i hi; omega⟩
  case round =>
    obtain ⟨k, hk, rfl, hx⟩ := hrel
    by_cases hlt : k < l.length
    · obtain ⟨y, b, off, rfl, hy, hcell⟩ := HA.out k hlt
      have HY := Lib.hid hy
      clear hy
      by_cases hxk : x = y
      · have HX := Lib.hid hxk
        have ht : (x == y) = true := by simpa using hxk
        clear hxk
        go_wp2
        go_ret
        exact ⟨ret_int (indexOf_at k hx (HY.out.trans (congrArg some HX.out.symm))).symm, rfl⟩
      · have ht : (x == y) = false := by simpa using hxk
        have HX := Lib.hid hxk
        clear hxk
        go_wp2
        go_round
        case rel => exact ⟨k + 1, by omega, by go_num, by
          intro i hi
          by_cases h : i = k
          · subst h; rw [HY.out]; simpa using Ne.symm HX.out
          · exact hx i (by omega)⟩
        case measure => simp [intOf]; omega
    · go_wp2
      go_ret
      obtain rfl : k = l.length := by omega
      exact ⟨ret_int (indexOf_neg hx).symm, rfl⟩

def hasB (l : List Int) (x : Int) : Bool := decide (x ∈ l)

set_option maxHeartbeats 400000 in
theorem contains_any (v : Value) (l : List Int) (x : Int) (w : World) (h : SliceAt w v 1 l.length (intCells l)) :
    Calls Try.prog 22 #[v, .int .i64 x] w fun e w' => e = .returned (.bool (hasB l x)) ∧ w = w' := by
  go_enter Try.func22, Try.ntmps22
  go_wp2_with (go_at_call 41; refine (index_any _ l x _ h).mono ?_; rintro e w' ⟨rfl, rfl⟩)
  go_ret
  refine ⟨ret_bool ?_, rfl⟩
  rw [hasB, decide_eq_decide]
  exact indexOf_ge

set_option maxHeartbeats 400000 in
theorem has_any (v : Value) (l : List Int) (x : Int) (w : World) (h : SliceAt w v 1 l.length (intCells l)) :
    Calls Try.prog 23 #[v, .int .i64 x] w fun e w' => e = .returned (.bool (hasB l x)) ∧ w = w' := by
  obtain ⟨a, c, rfl, hm, ha⟩ := intsOpen h
  have HA := Lib.hid ha
  clear ha h
  go_enter Try.func23, Try.ntmps23
  go_wp2
  go_loop [5] (fun i => ∃ k : Nat, k ≤ l.length ∧ i = .int .i64 k ∧ Hid (∀ i, i < k → l[i]? ≠ some x)) (fun i => l.length - (intOf i).toNat)
  case atStart => exact ⟨0, by omega, rfl, by intro i hi; omega⟩
  case round =>
    obtain ⟨k, hk, rfl, hx⟩ := hrel
    by_cases hlt : k < l.length
    · obtain ⟨y, b, off, rfl, hy, hcell⟩ := HA.out k hlt
      have HY := Lib.hid hy
      clear hy
      by_cases hxk : y = x
      · have HX := Lib.hid hxk
        have ht : (y == x) = true := by simpa using hxk
        clear hxk
        go_wp2
        go_ret
        refine ⟨ret_bool ?_, rfl⟩
        rw [hasB, eq_comm, decide_eq_true_iff]
        exact List.mem_of_getElem? (HY.out.trans (congrArg some HX.out))
      · have ht : (y == x) = false := by simpa using hxk
        have HX := Lib.hid hxk
        clear hxk
        go_wp2
        go_round
        case rel => exact ⟨k + 1, by omega, by go_num, by
          intro i hi
          by_cases h : i = k
          · subst h; rw [HY.out]; simpa using HX.out
          · exact hx i (by omega)⟩
        case measure => simp [intOf]; omega
    · go_wp2
      go_ret
      obtain rfl : k = l.length := by omega
      refine ⟨ret_bool ?_, rfl⟩
      rw [hasB, eq_comm, decide_eq_false_iff_not]
      intro hm
      obtain ⟨i, hi, e⟩ := List.getElem_of_mem hm
      exact hx.out i hi (by rw [List.getElem?_eq_getElem hi, e])
end Go.Proofs.Ytjpfnndfhbglgaa
