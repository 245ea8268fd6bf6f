import Derived.WalkKit
import Derived.WalkSpells
import Derived.WalkLawsBesides
import Derived.Handy
import Derived.BigQuiet
import Derived.Outline
import Derived.Deep.RegionHeld3
import Derived.Deep.DeepCutAuto
import Derived.Deep.DeepMust
import Derived.Deep.DeepFit
import Derived.Deep.LoopGhost
import Derived.Lib.Hide
import Derived.IntWalk
import Derived.Test.YtjpfnndfhbglgaaD
/-
  THE CONTRACTS OF Permissive, of both texts.
-/
namespace Go.Proofs.Ytjpfnndfhbglgaa
open Go.RowKit

structure Ty where
  name : ByteArray
  ala : Option Addr
  aln : Nat
  alc : Nat
  perm : Bool
def Ty.al (t : Ty) : Value := .slice t.ala t.aln t.alc

def Ty.cells (t : Ty) : List Value := [.string t.name, t.al, .bool t.perm]
def tyCells (l : List Ty) : List Value := l.flatMap Ty.cells

structure Pol where
  (c0 c1 c2 c3 c4 c5 c6 c7 c8 c9 c10 c11 c12 c13 c14 c15 c16 : Value)
def Pol.val (p : Pol) : Value := .agg #[p.c0, p.c1, p.c2, p.c3, p.c4, p.c5, p.c6, p.c7, p.c8, p.c9, p.c10, p.c11, p.c12, p.c13, p.c14, p.c15, p.c16]

def permOf (l : List Ty) : List Int := (l.zipIdx.filter (·.1.perm)).map fun x => (x.2 : Int)

theorem tyCells_at {l : List Ty} {k : Nat} {t : Ty} (h : l[k]? = some t) (j : Nat) (hj : j < 3) : (tyCells l)[k * 3 + j]? = t.cells[j]? := by
  induction l generalizing k with
  | nil => simp at h
  | cons x l ih =>
    have hl : x.cells.length = 3 := rfl
    cases k with
    | zero =>
      simp at h
      subst h
      simp only [tyCells, List.flatMap_cons, Nat.zero_mul, Nat.zero_add]
      rw [List.getElem?_append_left (by omega)]
    | succ k =>
      have := ih (k := k) (by simpa using h)
      simp only [tyCells, List.flatMap_cons]
      rw [List.getElem?_append_right (by omega)]
      rw [← this]
      unfold tyCells
      congr 1
      omega

theorem permOf_snoc (l : List Ty) (t : Ty) : permOf (l ++ [t]) = permOf l ++ if t.perm then [(l.length : Int)] else [] := by
  unfold permOf
  rw [List.zipIdx_append, List.filter_append, List.map_append]
  congr 1
  simp [List.filter_cons]
  split <;> simp

theorem permOf_len (l : List Ty) : (permOf l).length ≤ l.length := by
  unfold permOf
  rw [List.length_map]
  exact Nat.le_trans (List.length_filter_le _ _) (by simp)

theorem tyOpen {w : World} {v : Value} {l : List Ty} (h : SliceAt w v 3 l.length (tyCells l)) :
    ∃ a c, v = .slice a l.length c ∧ l.length ≤ 9223372036854775807 ∧ (∀ k : Nat, k < l.length → ∃ (y : Ty) (b off : Nat), a = some ⟨b, off, none⟩ ∧ l[k]? = some y ∧
      w.cell? ⟨b, off + k * 3, none⟩ = some (.string y.name) ∧ w.cell? ⟨b, off + k * 3 + 1, none⟩ = some (.slice y.ala y.aln y.alc) ∧ w.cell? ⟨b, off + k * 3 + 2, none⟩ = some (.bool y.perm)) := by
  obtain ⟨a, c, rfl, _, hm, ha⟩ := h.form (by omega)
  refine ⟨a, c, rfl, hm, fun k hk => ?_⟩
  obtain ⟨b, off, rfl, hc⟩ := ha k hk
  have hy : l[k]? = some l[k] := List.getElem?_eq_getElem hk
  exact ⟨l[k], b, off, rfl, hy, hc 0 _ (tyCells_at hy 0 (by omega)), hc 1 _ (tyCells_at hy 1 (by omega)), hc 2 _ (tyCells_at hy 2 (by omega))⟩

theorem info3 : ∃ i z, Try.prog.info? 3 = some i ∧ i.zero = some z ∧ i.size = 1 ∧ i.bytes = 8 ∧ z.cells.size = 1 := infoOf (by kernel_rfl)
set_option maxHeartbeats 400000 in
theorem permissive_any (p : Pol) (l : List Ty) (w : World) (h : SliceAt w p.c1 3 l.length (tyCells l)) (hb : l.length * 48 ≤ 140737488355328) :
    Calls Try.prog 15 #[p.val] w fun e w' => ∃ v, e = .returned v ∧ w'.ownsRow (w.heap.size + 1) 3 1 v (permOf l).length (intCells (permOf l)) ∧ Below w.heap.size w w' := by
  obtain ⟨a1, d1, e1, hm, ha⟩ := tyOpen h
  obtain ⟨c0, c1, c2, c3, c4, c5, c6, c7, c8, c9, c10, c11, c12, c13, c14, c15, c16⟩ := p
  dsimp only at e1
  subst e1
  unfold Pol.val
  clear h
  have HC := Lib.hid ha
  clear ha
  obtain ⟨i0, z, hi, hz0, hz1, hz2, hzs⟩ := info3
  go_enter Try.func15, Try.ntmps15
  go_wp2
  go_loopw [3, 9] (fun v i wr => ∃ k : Nat, k ≤ l.length ∧ i = .int .i64 k ∧ wr.ownsRow (w.heap.size + 1) 3 1 v (permOf (l.take k)).length (intCells (permOf (l.take k))) ∧ Below w.heap.size w wr ∧ w.heap.size + 1 ≤ wr.heap.size) (fun _ i _ => l.length - (intOf i).toNat)
  case atStart => exact ⟨0, by omega, rfl, World.ownsRow_nil _ _ _ _, by go_grown, by simp⟩
  case round =>
    obtain ⟨k, hk, rfl, hown, hbl, hz⟩ := hrel
    have hpl := permOf_len (l.take k)
    have hlk := List.length_take_le k l
    by_cases hlt : k < l.length
    · obtain ⟨y, b, off, rfl, hy, k0, k1, k2⟩ := HC.out k hlt
      replace k0 := cell_later hbl k0
      replace k1 := cell_later hbl k1
      replace k2 := cell_later hbl k2
      have HY := Lib.hid hy
      clear hy
      cases hp : y.perm
      · have HP := Lib.hid hp
        rw [hp] at k2
        clear hp
        go_wp2
        go_roundw
        case rel => exact ⟨k + 1, by omega, by go_num, by rw [take_snoc HY.out, permOf_snoc, HP.out]; simpa using hown.alloc _, by go_grown, by simp; omega⟩
        case measure => simp [intOf]; omega
      · have HP := Lib.hid hp
        rw [hp] at k2
        clear hp
        go_wp2_with (at_builtin; refine wpList_append_own _ rfl _ _ 49 rfl (w.heap.size + 1) 3 i0 z 1 8 Try.underlying49 hi hz0 hz1 hz2 hzs (by decide) _ _ _ rfl ((hown.alloc _).alloc _) ⟨wr.heap.size + 1, 0, none⟩ 1 1 [.int .i64 k] rfl rfl ?c1 ?c2 ?c3 ?c4 ?c5 ?_)
        case c1 => have h := cell_one_new (wr.alloc (Obj.cells #[Value.string y.name, Value.slice y.ala y.aln y.alc, Value.bool true] 62)) (.int .i64 k) 3; simpa using h
        case c2 => simp [Value.oneCell']
        case c3 => unfold maxLen; omega
        case c4 => omega
        case c5 => simp; omega
        intro v' w1 hown' hgrow hnil
        have hb1 := ((hbl.alloc (by omega) _).alloc (by simp; omega) _).grown hgrow (by simp; omega) (fun q hq => by have := (hown.lt q hq).1; omega)
        have hz1 : w.heap.size + 1 ≤ w1.heap.size := by have := hgrow.size; simp at this; omega
        clear hgrow hnil
        go_wp2
        go_roundw
        case rel => exact ⟨k + 1, by omega, by go_num, by rw [take_snoc HY.out, permOf_snoc, HP.out]; simpa [intCells, Nat.min_eq_left hk] using hown', hb1, hz1⟩
        case measure => simp [intOf]; omega
    · go_wp2
      go_ret
      refine ⟨_, rfl, ?_, hbl⟩
      rw [List.take_of_length_le (by omega)] at hown
      exact hown
set_option maxHeartbeats 400000 in
theorem rpermissive_any (p : Pol) (l : List Ty) (w : World) (h : SliceAt w p.c1 3 l.length (tyCells l)) (hb : l.length * 48 ≤ 140737488355328) :
    Calls Try.prog 17 #[p.val] w fun e w' => ∃ v, e = .returned v ∧ w'.ownsRow (w.heap.size + 1) 3 1 v (permOf l).length (intCells (permOf l)) ∧ Below w.heap.size w w' := by
  obtain ⟨a1, d1, e1, hm, ha⟩ := tyOpen h
  obtain ⟨c0, c1, c2, c3, c4, c5, c6, c7, c8, c9, c10, c11, c12, c13, c14, c15, c16⟩ := p
  dsimp only at e1
  subst e1
  unfold Pol.val
  clear h
  have HC := Lib.hid ha
  clear ha
  obtain ⟨i0, z, hi, hz0, hz1, hz2, hzs⟩ := info3
  go_enter Try.func17, Try.ntmps17
  go_wp2
  go_loopw [3, 4] (fun v i wr => ∃ k : Nat, k ≤ l.length ∧ i = .int .i64 k ∧ wr.ownsRow (w.heap.size + 1) 3 1 v (permOf (l.take k)).length (intCells (permOf (l.take k))) ∧ Below (w.heap.size + 1) (w.alloc (.cells #[c0, .slice a1 l.length d1, c2, c3, c4, c5, c6, c7, c8, c9, c10, c11, c12, c13, c14, c15, c16] 48)) wr ∧ w.heap.size + 1 ≤ wr.heap.size) (fun _ i _ => l.length - (intOf i).toNat)
  case atStart => exact ⟨0, by omega, rfl, World.ownsRow_nil _ _ _ _, by go_grown, by simp⟩
  case round =>
    obtain ⟨k, hk, rfl, hown, hbl, hz⟩ := hrel
    have hbw : Below w.heap.size w wr := ((Below.refl _ w).alloc (Nat.le_refl _) _).trans (hbl.mono (by omega))
    have kb := (hbl.cell (p := ⟨w.heap.size, 1, none⟩) (by simp)).trans (by simp; rfl)
    have hpl := permOf_len (l.take k)
    have hlk := List.length_take_le k l
    by_cases hlt : k < l.length
    · obtain ⟨y, b, off, rfl, hy, k0, k1, k2⟩ := HC.out k hlt
      replace k0 := cell_later hbw k0
      replace k1 := cell_later hbw k1
      replace k2 := cell_later hbw k2
      have HY := Lib.hid hy
      clear hy
      cases hp : y.perm
      · have HP := Lib.hid hp
        rw [hp] at k2
        clear hp
        go_wp2
        go_roundw
        case rel => exact ⟨k + 1, by omega, by go_num, by rw [take_snoc HY.out, permOf_snoc, HP.out]; simpa using hown, hbl, hz⟩
        case measure => simp [intOf]; omega
      · have HP := Lib.hid hp
        rw [hp] at k2
        clear hp
        go_wp2_with (at_builtin; refine wpList_append_own _ rfl _ _ 49 rfl (w.heap.size + 1) 3 i0 z 1 8 Try.underlying49 hi hz0 hz1 hz2 hzs (by decide) _ _ _ rfl (hown.alloc _) ⟨wr.heap.size, 0, none⟩ 1 1 [.int .i64 k] rfl rfl ?c1 ?c2 ?c3 ?c4 ?c5 ?_)
        case c1 => exact cell_one_new _ _ _
        case c2 => simp [Value.oneCell']
        case c3 => unfold maxLen; omega
        case c4 => omega
        case c5 => simp; omega
        intro v' w1 hown' hgrow hnil
        have hb1 := (hbl.alloc (by omega) _).grown hgrow (by simp; omega) (fun q hq => by have := (hown.lt q hq).1; omega)
        have hz1 : w.heap.size + 1 ≤ w1.heap.size := by have := hgrow.size; simp at this; omega
        clear hgrow hnil
        go_wp2
        go_roundw
        case rel => exact ⟨k + 1, by omega, by go_num, by rw [take_snoc HY.out, permOf_snoc, HP.out]; simpa [intCells, Nat.min_eq_left hk] using hown', hb1, hz1⟩
        case measure => simp [intOf]; omega
    · go_wp2
      go_ret
      refine ⟨_, rfl, ?_, hbw⟩
      rw [List.take_of_length_le (by omega)] at hown
      exact hown
end Go.Proofs.Ytjpfnndfhbglgaa
