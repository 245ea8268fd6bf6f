import Derived.WalkKit
import Derived.WalkSpells
import Derived.WalkLawsBesides
import Derived.Handy
import Derived.BigQuiet
import Derived.Outline
import Derived.Deep.RegionHeld3
import Derived.Deep.DeepCutAuto
import Derived.Deep.DeepMust
import Derived.Deep.DeepFit
import Derived.Deep.LoopGhost
import Derived.Lib.Hide
import Derived.IntWalk
import Derived.Test.YtjpfnndfhbglgaaF
import Derived.WalkSmall
/-
  THE CONTRACT OF With, of the reference.
-/
namespace Go.Proofs.Ytjpfnndfhbglgaa
open Go.RowKit

def IsSl (v : Value) : Prop := ∃ a n c, v = .slice a n c
structure Pol.Sl (p : Pol) : Prop where
  s0 : IsSl p.c0
  s1 : IsSl p.c1
  s2 : IsSl p.c2
  s3 : IsSl p.c3
  s4 : IsSl p.c4
  s5 : IsSl p.c5
  s6 : IsSl p.c6
  s7 : IsSl p.c7
  s8 : IsSl p.c8
  s9 : IsSl p.c9
  s10 : IsSl p.c10
  s11 : IsSl p.c11
  s12 : IsSl p.c12
  s13 : IsSl p.c13
  s14 : IsSl p.c14
  s15 : IsSl p.c15
  s16 : IsSl p.c16

/-- The types, permissive if listed; k: the first one's number. -/
def withT (zs : List Int) : Nat → List Ty → List Ty
  | _, [] => []
  | k, t :: l => { t with perm := hasB zs k } :: withT zs (k + 1) l

theorem withT_length (zs : List Int) (k : Nat) (l : List Ty) : (withT zs k l).length = l.length := by
  induction l generalizing k with
  | nil => rfl
  | cons t l ih => simp [withT, ih]

theorem withT_snoc (zs : List Int) (k : Nat) (l : List Ty) (t : Ty) : withT zs k (l ++ [t]) = withT zs k l ++ [{ t with perm := hasB zs (k + l.length : Nat) }] := by
  induction l generalizing k with
  | nil => simp [withT]
  | cons x l ih => simp [withT, ih]; congr 1; omega

theorem tyCells_snoc (l : List Ty) (t : Ty) : tyCells (l ++ [t]) = tyCells l ++ t.cells := by simp [tyCells]

theorem size32 : (Try.prog.info? 32).map (·.size) = some 1 := by kernel_rfl
theorem size48 : (Try.prog.info? 48).map (·.size) = some 17 := by kernel_rfl

set_option maxRecDepth 100000 in
set_option maxHeartbeats 1000000 in
theorem rwith_any (p : Pol) (hp : p.Sl) (l : List Ty) (z : Value) (zs : List Int) (w : World) (h : SliceAt w p.c1 3 l.length (tyCells l)) (hz : SliceAt w z 1 zs.length (intCells zs)) (hb : l.length * 48 ≤ 140737488355328) :
    Calls Try.prog 14 #[p.val, z] w fun e w' => ∃ v, e = .returned ({ p with c1 := v } : Pol).val ∧ w'.ownsRow (w.heap.size + 2) 62 3 v l.length (tyCells (withT zs 0 l)) ∧ Below w.heap.size w w' := by
  obtain ⟨a1, d1, e1, hm, HA⟩ := tyOpen h
  obtain ⟨c0, c1, c2, c3, c4, c5, c6, c7, c8, c9, c10, c11, c12, c13, c14, c15, c16⟩ := p
  obtain ⟨⟨x0, y0, z0, g0⟩, -, ⟨x2, y2, z2, g2⟩, ⟨x3, y3, z3, g3⟩, ⟨x4, y4, z4, g4⟩, ⟨x5, y5, z5, g5⟩, ⟨x6, y6, z6, g6⟩, ⟨x7, y7, z7, g7⟩, ⟨x8, y8, z8, g8⟩, ⟨x9, y9, z9, g9⟩, ⟨x10, y10, z10, g10⟩, ⟨x11, y11, z11, g11⟩, ⟨x12, y12, z12, g12⟩, ⟨x13, y13, z13, g13⟩, ⟨x14, y14, z14, g14⟩, ⟨x15, y15, z15, g15⟩, ⟨x16, y16, z16, g16⟩⟩ := hp
  dsimp only at e1 g0 g2 g3 g4 g5 g6 g7 g8 g9 g10 g11 g12 g13 g14 g15 g16
  subst e1 g0 g2 g3 g4 g5 g6 g7 g8 g9 g10 g11 g12 g13 g14 g15 g16
  unfold Pol.val
  clear h
  have HC := Lib.hid HA
  clear HA
  have HZ := Lib.hid hz
  clear hz
  obtain ⟨i0, zz, hi, hz0, hz1, hz2, hzs⟩ := info62
  go_enter Try.func14, Try.ntmps14
  go_wp2
  go_loopw [5, 6] (fun v i wr => ∃ k : Nat, k ≤ l.length ∧ i = .int .i64 k ∧ wr.ownsRow (w.heap.size + 2) 62 3 v k (tyCells (withT zs 0 (l.take k))) ∧ w.heap.size + 2 ≤ wr.heap.size ∧
    Below (w.heap.size + 2) ((w.alloc (.cells #[.slice x0 y0 z0, .slice a1 l.length d1, .slice x2 y2 z2, .slice x3 y3 z3, .slice x4 y4 z4, .slice x5 y5 z5, .slice x6 y6 z6, .slice x7 y7 z7, .slice x8 y8 z8, .slice x9 y9 z9, .slice x10 y10 z10, .slice x11 y11 z11, .slice x12 y12 z12, .slice x13 y13 z13, .slice x14 y14 z14, .slice x15 y15 z15, .slice x16 y16 z16] 48)).alloc
      (.cells #[.slice none 0 0, .slice none 0 0, .slice none 0 0, .slice none 0 0, .slice none 0 0, .slice none 0 0, .slice none 0 0, .slice none 0 0, .slice none 0 0, .slice none 0 0, .slice none 0 0, .slice none 0 0, .slice none 0 0, .slice none 0 0, .slice none 0 0, .slice none 0 0, .slice none 0 0] 48)) wr)
    (fun _ i _ => l.length - (intOf i).toNat)
  case atStart => exact ⟨0, by omega, rfl, World.ownsRow_nil _ _ _ _, by simp, by go_grown⟩
  case round =>
    obtain ⟨k, hk, rfl, hown, hsz, hbl⟩ := hrel
    have hbw : Below w.heap.size w wr := (((Below.refl _ w).alloc (Nat.le_refl _) _).alloc (by simp) _).trans (hbl.mono (by omega))
    have kb := (hbl.cell (p := ⟨w.heap.size, 1, none⟩) (by simp)).trans (by simp; rfl)
    by_cases hlt : k < l.length
    · obtain ⟨y, b, off, rfl, hy, k0, k1, k2⟩ := HC.out k hlt
      replace k0 := cell_later hbw k0
      replace k1 := cell_later hbw k1
      replace k2 := cell_later hbw k2
      have HY := Lib.hid hy
      clear hy
      go_wp2_with (first | (go_at_call 23; refine (has_any _ zs _ _ ?hs).mono ?_; rotate_left; rintro e w' ⟨rfl, rfl⟩) | (at_builtin; refine wpList_append_own _ rfl _ _ 32 rfl (w.heap.size + 2) 62 i0 zz 3 48 Try.underlying32 hi hz0 hz1 hz2 hzs (by decide) _ _ _ rfl ((hown.alloc _).alloc _) ⟨wr.heap.size + 1, 0, none⟩ 1 1 [.string y.name, .slice y.ala y.aln y.alc, .bool (hasB zs k)] rfl rfl ?c1 ?c2 ?c3 ?c4 ?c5 ?_))
      case c1 => have h := cells_new (wr.alloc (.cells #[.string y.name, .slice y.ala y.aln y.alc, .bool (hasB zs k)] 62)) #[.string y.name, .slice y.ala y.aln y.alc, .bool (hasB zs k)] 62; simpa using h
      case c2 => simp [Value.oneCell']
      case c3 => unfold maxLen; omega
      case c4 => omega
      case c5 => simp; omega
      case hs => exact HZ.out.keep (hbw.alloc (by omega) _)
      intro v' w1 hown' hgrow hnil
      have hb1 := ((hbl.alloc (by omega) _).alloc (by simp; omega) _).grown hgrow (by simp; omega) (fun q hq => by have := (hown.lt q hq).1; omega)
      have hz1 : w.heap.size + 2 ≤ w1.heap.size := by have := hgrow.size; simp at this; omega
      clear hgrow hnil hbl
      go_wp2
      go_roundw
      case rel => exact ⟨k + 1, by omega, by go_num, by rw [take_snoc HY.out, withT_snoc, tyCells_snoc]; simpa [Ty.cells, Ty.al, Nat.min_eq_left hk] using hown', hz1, hb1⟩
      case measure => simp [intOf]; omega
    · obtain ⟨hB0, hB1⟩ := heap_two w (.cells #[.slice x0 y0 z0, .slice a1 l.length d1, .slice x2 y2 z2, .slice x3 y3 z3, .slice x4 y4 z4, .slice x5 y5 z5, .slice x6 y6 z6, .slice x7 y7 z7, .slice x8 y8 z8, .slice x9 y9 z9, .slice x10 y10 z10, .slice x11 y11 z11, .slice x12 y12 z12, .slice x13 y13 z13, .slice x14 y14 z14, .slice x15 y15 z15, .slice x16 y16 z16] 48) (.cells #[.slice none 0 0, .slice none 0 0, .slice none 0 0, .slice none 0 0, .slice none 0 0, .slice none 0 0, .slice none 0 0, .slice none 0 0, .slice none 0 0, .slice none 0 0, .slice none 0 0, .slice none 0 0, .slice none 0 0, .slice none 0 0, .slice none 0 0, .slice none 0 0, .slice none 0 0] 48)
      have hW0 : Whole wr w.heap.size 48 #[.slice x0 y0 z0, .slice a1 l.length d1, .slice x2 y2 z2, .slice x3 y3 z3, .slice x4 y4 z4, .slice x5 y5 z5, .slice x6 y6 z6, .slice x7 y7 z7, .slice x8 y8 z8, .slice x9 y9 z9, .slice x10 y10 z10, .slice x11 y11 z11, .slice x12 y12 z12, .slice x13 y13 z13, .slice x14 y14 z14, .slice x15 y15 z15, .slice x16 y16 z16] := (hbl.block w.heap.size (by omega)).trans hB0
      have hW1 : Whole wr (w.heap.size + 1) 48 #[.slice none 0 0, .slice none 0 0, .slice none 0 0, .slice none 0 0, .slice none 0 0, .slice none 0 0, .slice none 0 0, .slice none 0 0, .slice none 0 0, .slice none 0 0, .slice none 0 0, .slice none 0 0, .slice none 0 0, .slice none 0 0, .slice none 0 0, .slice none 0 0, .slice none 0 0] := (hbl.block (w.heap.size + 1) (by omega)).trans hB1
      clear hbl hB0 hB1
      obtain ⟨ra, rn, rc, hr⟩ : ∃ a n c, u5 = .slice a n c := by
        rcases hown.2 with ⟨h, _⟩ | ⟨g, cap, cur, h, _⟩ <;> exact ⟨_, _, _, h⟩
      subst hr
      obtain rfl : k = l.length := by omega
      rw [List.take_length] at hown
      have HW0 := Lib.hid hW0
      have HW1 := Lib.hid hW1
      clear hW0 hW1
      have own_ne : ∀ g, g < w.heap.size + 2 → (Value.slice ra rn rc).ownBlock ≠ some g := fun g hg e => by have := (hown.lt g e).1; omega
      go_wp2_with (refine wpList_store_blk rfl 32 _ _ rfl w.heap.size 1 (.slice ra rn rc) rfl rfl 48 _ HW0.out (by simp [Value.cells]) size32 rfl ?_)
      intro w1 S1 W1
      simp only [splice, List.setIfInBounds_toArray, List.set_cons_zero, List.set_cons_succ] at W1
      have O1 := S1.own hown (own_ne _ (by omega))
      have V1 := S1.whole HW1.out (by omega)
      have B1 := hbw.trans (S1.below (Nat.le_refl _))
      have HS1 := Lib.hid S1
      have HW1 := Lib.hid W1
      have HV1 := Lib.hid V1
      clear S1 W1 V1 kb
      go_wp2_with (first | (refine wpList_load_row rfl 48 _ rfl w.heap.size rfl 48 _ (0, 0) _ HW1.out Try.underlying48 rfl size48 ?_) | (refine wpList_store_blk rfl 48 _ _ rfl (w.heap.size + 1) 0 (.agg _) rfl rfl 48 _ HV1.out (by simp [Value.cells]) size48 rfl ?_))
      intro w2 S2 W2
      simp only [splice, List.setIfInBounds_toArray, List.set_cons_zero, List.set_cons_succ] at W2
      clear HW0 HW1 HV1 HS1
      have O2 := S2.own O1 (own_ne _ (by omega))
      have B2 := B1.trans (S2.below (by omega))
      go_wp2
      refine bodyPost_ret (results_cell_row rfl _ _ (w.heap.size + 1) 48 _ (0, 0) _ rfl W2 Try.underlying48 rfl size48) rfl ⟨_, rfl, O2, B2⟩
end Go.Proofs.Ytjpfnndfhbglgaa
