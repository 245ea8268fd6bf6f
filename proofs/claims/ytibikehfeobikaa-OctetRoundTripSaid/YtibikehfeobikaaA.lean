import Derived.WalkKit
import Derived.WalkSpells
import Derived.WalkLawsBesides
import Derived.Handy
import Derived.BigQuiet
import Derived.Outline
import Derived.Deep.RegionHeld3
import Derived.Deep.DeepCutAuto
import Derived.Deep.DeepMust
import Derived.Deep.DeepFit
import Derived.Deep.LoopGhost
import Derived.Lib.Hide
import Derived.IntWalk
import Derived.Deep.CutBlock
import Derived.Deep.RegionWith
import Derived.Deep.QuietTactic
import Derived.Laws.AppendOwnNone
import Derived.Test.YtibikehfeobikaaL
import Derived.Test.YtibikehfeobikaaM
import Derived.Test.YtibikehfeobikaaRows
/-
  BYTES IN MEMORY; the contracts of the octet functions that only read bytes, and of joined.
-/
namespace Go.Proofs.Ytibikehfeobikaa
open Go.RowKit

def byteCells (l : List Nat) : List Value := l.map fun (x : Nat) => Value.int .u8 (x : Int)
def Bytes (l : List Nat) : Prop := ∀ x ∈ l, x < 256
def BytesAt (w : World) (v : Value) (l : List Nat) : Prop := SliceAt w v 1 l.length (byteCells l) ∧ Bytes l
def OwnB (w : World) (B : Nat) (v : Value) (l : List Nat) : Prop := w.ownsRow B 5 1 v l.length (byteCells l) ∧ Bytes l

theorem byte_one (l : List Nat) : ∀ u ∈ byteCells l, u.oneCell' = true := fun u hu => by
  obtain ⟨x, _, rfl⟩ := List.mem_map.1 hu
  rfl
theorem byteCells_append (a b : List Nat) : byteCells (a ++ b) = byteCells a ++ byteCells b := by simp [byteCells]
theorem Bytes.append {a b : List Nat} (ha : Bytes a) (hb : Bytes b) : Bytes (a ++ b) := fun x hx => (List.mem_append.1 hx).elim (ha x) (hb x)
theorem Bytes.drop {l : List Nat} (h : Bytes l) (i : Nat) : Bytes (l.drop i) := fun x hx => h x (List.mem_of_mem_drop hx)
theorem Bytes.take {l : List Nat} (h : Bytes l) (i : Nat) : Bytes (l.take i) := fun x hx => h x (List.mem_of_mem_take hx)
theorem BytesAt.keep {w w' : World} {v : Value} {l : List Nat} (h : BytesAt w v l) (hb : Below w.heap.size w w') : BytesAt w' v l := ⟨h.1.keep hb, h.2⟩
theorem OwnB.at {w : World} {B : Nat} {v : Value} {l : List Nat} (h : OwnB w B v l) : BytesAt w v l := ⟨SliceAt.of_own h.1 (byte_one l), h.2⟩
theorem OwnB.keep {w w' : World} {B : Nat} {v : Value} {l : List Nat} (h : OwnB w B v l) (hb : Below w.heap.size w w') : OwnB w' B v l := ⟨own_keep hb h.1 (Nat.le_refl _), h.2⟩
theorem OwnB.low {w : World} {B B' : Nat} {v : Value} {l : List Nat} (h : OwnB w B v l) (hb : B' ≤ B) : OwnB w B' v l := ⟨own_low h.1 hb, h.2⟩
theorem OwnB.nil (w : World) (B : Nat) : OwnB w B (.slice none 0 0) [] := ⟨World.ownsRow_nil _ _ _ _, by intro x hx; cases hx⟩
theorem BytesAt.nil (w : World) : BytesAt w (.slice none 0 0) [] := ⟨SliceAt.nil w 1, by intro x hx; cases hx⟩

theorem bytesOpen {w : World} {v : Value} {l : List Nat} (h : BytesAt w v l) :
    ∃ a c, v = .slice a l.length c ∧ l.length ≤ c ∧ l.length ≤ 9223372036854775807 ∧ ∀ k : Nat, k < l.length → ∃ (y b off : Nat), a = some ⟨b, off, none⟩ ∧ l[k]? = some y ∧ y < 256 ∧ w.cell? ⟨b, off + k, none⟩ = some (.int .u8 y) := by
  obtain ⟨a, c, rfl, hc0, hm, ha⟩ := h.1.form (by omega)
  refine ⟨a, c, rfl, hc0, hm, fun k hk => ?_⟩
  obtain ⟨b, off, rfl, hc⟩ := ha k hk
  exact ⟨l[k], b, off, rfl, List.getElem?_eq_getElem hk, h.2 _ (List.getElem_mem hk), by simpa using hc 0 _ (by simp [byteCells, hk])⟩

/-- A part of a slice. -/
theorem BytesAt.part {w : World} {a : Addr} {c : Nat} {l : List Nat} (h : BytesAt w (.slice (some a) l.length c) l) {i j c' : Nat} (hi : i ≤ j) (hj : j ≤ l.length) (hc : j - i ≤ c') :
    BytesAt w (.slice (some (a.add i)) (j - i) c') ((l.take j).drop i) := by
  have hm := h.1.2.1
  have hl : ((l.take j).drop i).length = j - i := by rw [List.length_drop, List.length_take]; omega
  refine ⟨⟨by simp [byteCells], by omega, byte_one _, .inr ⟨_, c', by rw [hl], by omega, fun k u hk => ?_⟩⟩, (h.2.take j).drop i⟩
  rcases h.1.2.2.2 with ⟨h1, _⟩ | ⟨a', c1, h1, _, hc1⟩
  · cases h1
  · simp only [Value.slice.injEq, Option.some.injEq] at h1
    obtain ⟨rfl, -, rfl⟩ := h1
    have := hc1 (i + k) u (by
      rw [byteCells, List.getElem?_map] at hk ⊢
      obtain ⟨y, hy, rfl⟩ := Option.map_eq_some_iff.1 hk
      rw [List.getElem?_drop] at hy
      rw [List.getElem?_take] at hy
      split at hy
      · rw [hy]; rfl
      · cases hy)
    unfold Addr.add at this ⊢
    by_cases hi0 : i = 0 <;> by_cases hk0 : k = 0 <;> simp_all [Nat.add_assoc]

theorem BytesAt.zero (w : World) (a : Option Addr) : BytesAt w (.slice a 0 0) [] ∨ a = none := by
  cases a with
  | none => exact .inr rfl
  | some a => exact .inl ⟨⟨by simp [byteCells], by simp [maxLen], byte_one _, .inr ⟨a, 0, rfl, Nat.le_refl _, fun j u h => by simp [byteCells] at h⟩⟩, by intro x hx; cases hx⟩
theorem BytesAt.empty (w : World) (a : Option Addr) : BytesAt w (.slice a 0 0) [] := by
  rcases BytesAt.zero w a with h | rfl
  · exact h
  · exact BytesAt.nil w

/-- Wherever v reads as l, r reads as m. -/
def Sub (v : Value) (l : List Nat) (r : Value) (m : List Nat) : Prop := ∀ W : World, BytesAt W v l → BytesAt W r m

set_option maxHeartbeats 400000 in
theorem rest_sub (v : Value) (l : List Nat) (i : Nat) (w : World) (h : BytesAt w v l) (hi : i ≤ l.length) :
    Calls Try.prog 26 #[v, .int .i64 i] w fun e w' => ∃ r, e = .returned r ∧ Sub v l r (l.drop i) ∧ w = w' := by
  obtain ⟨a, c, rfl, hc, hm, ha⟩ := bytesOpen h
  by_cases hlt : i < l.length
  · obtain ⟨y, b, off, rfl, -⟩ := ha i hlt
    have HP : Sub (.slice (some ⟨b, off, none⟩) l.length c) l (.slice (some ⟨b, off + i, none⟩) (l.length - i) (l.length - i)) (l.drop i) := fun W hW => by
      have HP := hW.part (i := i) (j := l.length) (c' := l.length - i) hi (Nat.le_refl _) (Nat.le_refl _)
      rwa [List.take_length, Addr.add_lit] at HP
    have HH := Lib.hid HP
    clear ha HP h
    go_enter Try.func26, Try.ntmps26
    go_wp2
    go_ret
    exact ⟨_, rfl, HH.out, rfl⟩
  · obtain rfl : i = l.length := by omega
    clear ha h hi hlt
    go_enter Try.func26, Try.ntmps26
    cases a with
    | none =>
      go_wp2
      go_ret
      exact ⟨_, rfl, fun W _ => by rw [List.drop_length]; exact BytesAt.empty W _, rfl⟩
    | some a =>
      go_wp2
      go_ret
      exact ⟨_, rfl, fun W _ => by rw [List.drop_length]; exact BytesAt.empty W _, rfl⟩

theorem rest_any (v : Value) (l : List Nat) (i : Nat) (w : World) (h : BytesAt w v l) (hi : i ≤ l.length) :
    Calls Try.prog 26 #[v, .int .i64 i] w fun e w' => ∃ r, e = .returned r ∧ BytesAt w' r (l.drop i) ∧ w = w' :=
  (rest_sub v l i w h hi).mono fun _ _ ⟨r, h1, h2, h3⟩ => ⟨r, h1, h3 ▸ h2 w h, h3⟩

theorem info5 : ∃ i z, Try.prog.info? 5 = some i ∧ i.zero = some z ∧ i.size = 1 ∧ i.bytes = 1 ∧ z.cells.size = 1 := infoOf (by kernel_rfl)

/-- The checksum. -/
def sumStep (n : Int) (c : Nat) : Int := bits .xor .u32 n (c : Int) * 16777619 % 4294967296
def sumF (l : List Nat) : Int := l.foldl sumStep 2166136261
theorem sumF_snoc (l : List Nat) (c : Nat) : sumF (l ++ [c]) = sumStep (sumF l) c := by simp [sumF]

set_option maxHeartbeats 400000 in
theorem sum_any (v : Value) (l : List Nat) (w : World) (h : BytesAt w v l) :
    Calls Try.prog 11 #[v] w fun e w' => e = .returned (.int .u32 (sumF l)) ∧ w = w' := by
  obtain ⟨a, c, rfl, hc, hm, ha⟩ := bytesOpen h
  have HA := Lib.hid ha
  clear ha h
  go_enter Try.func11, Try.ntmps11
  go_wp2
  go_loop [3, 8] (fun n i => ∃ k : Nat, k ≤ l.length ∧ i = .int .i64 k ∧ n = .int .u32 (sumF (l.take k))) (fun _ i => l.length - (intOf i).toNat)
  case atStart => exact ⟨0, Nat.zero_le _, rfl, rfl⟩
  case round =>
    obtain ⟨k, hk, rfl, rfl⟩ := hrel
    by_cases hlt : k < l.length
    · obtain ⟨y, b, off, rfl, hy, hyb, hcell⟩ := HA.out k hlt
      have HS : Hid (sumF (l.take (k + 1)) = sumStep (sumF (l.take k)) y) := by rw [take_snoc hy]; exact sumF_snoc _ _
      clear hy
      go_wp2
      go_round
      case rel => exact ⟨k + 1, by omega, by go_num, by rw [HS.out]; rfl⟩
      case measure => simp [intOf]; omega
    · go_wp2
      go_ret
      exact ⟨ret_int (by rw [List.take_of_length_le (by omega)]), rfl⟩

set_option maxHeartbeats 400000 in
theorem rsum_any (v : Value) (l : List Nat) (w : World) (h : BytesAt w v l) :
    Calls Try.prog 12 #[v] w fun e w' => e = .returned (.int .u32 (sumF l)) ∧ w = w' := by
  obtain ⟨a, c, rfl, hc, hm, ha⟩ := bytesOpen h
  have HA := Lib.hid ha
  clear ha h
  go_enter Try.func12, Try.ntmps12
  go_wp2
  go_loop [3, 4] (fun n i => ∃ k : Nat, k ≤ l.length ∧ i = .int .i64 k ∧ n = .int .u32 (sumF (l.take k))) (fun _ i => l.length - (intOf i).toNat)
  case atStart => exact ⟨0, Nat.zero_le _, rfl, rfl⟩
  case round =>
    obtain ⟨k, hk, rfl, rfl⟩ := hrel
    by_cases hlt : k < l.length
    · obtain ⟨y, b, off, rfl, hy, hyb, hcell⟩ := HA.out k hlt
      have HS : Hid (sumF (l.take (k + 1)) = sumStep (sumF (l.take k)) y) := by rw [take_snoc hy]; exact sumF_snoc _ _
      clear hy
      go_wp2
      go_round
      case rel => exact ⟨k + 1, by omega, by go_num, by rw [HS.out]; rfl⟩
      case measure => simp [intOf]; omega
    · go_wp2
      go_ret
      exact ⟨ret_int (by rw [List.take_of_length_le (by omega)]), rfl⟩

set_option maxHeartbeats 1000000 in
theorem same_any (v v' : Value) (l l' : List Nat) (w : World) (h : BytesAt w v l) (h' : BytesAt w v' l') :
    Calls Try.prog 13 #[v, v'] w fun e w' => e = .returned (.bool (decide (l = l'))) ∧ Below w.heap.size w w' := by
  obtain ⟨a, c, rfl, hc, hm, ha⟩ := bytesOpen h
  obtain ⟨a', c', rfl, hc', hm', ha'⟩ := bytesOpen h'
  have HA := Lib.hid ha
  have HA' := Lib.hid ha'
  clear ha ha' h h'
  by_cases hl : l.length = l'.length
  · have ht : ((l.length : Int) != l'.length) = false := by simp [hl]
    have HL := Lib.hid hl
    clear hl
    go_enter Try.func13, Try.ntmps13
    go_wp2
    go_loopw [5] (fun i wr => ∃ k : Nat, k ≤ l.length ∧ i = .int .i64 k ∧ Hid (∀ j, j < k → l[j]? = l'[j]?) ∧ Below w.heap.size w wr) (fun i _ => l.length - (intOf i).toNat)
    case atStart => exact ⟨0, Nat.zero_le _, rfl, fun j hj => by omega, Below.refl _ _⟩
    case round =>
      obtain ⟨k, hk, rfl, hpre, hb⟩ := hrel
      by_cases hlt : k < l.length
      · obtain ⟨y, b, off, rfl, hy, hyb, hcell⟩ := HA.out k hlt
        obtain ⟨y', b', off', rfl, hy', hyb', hcell'⟩ := HA'.out k (by rw [← HL.out]; exact hlt)
        have hlt' : k < l'.length := by rw [← HL.out]; exact hlt
        replace hcell := cell_later hb hcell
        replace hcell' := cell_later hb hcell'
        have HY := Lib.hid (And.intro hy hy')
        clear hy hy'
        by_cases he : y = y'
        · subst he
          go_wp2
          go_quiet (fail)
          go_wp2
          go_roundw
          case rel => exact ⟨k + 1, by omega, by go_num, fun j hj => by
            by_cases hjk : j = k
            · subst hjk; rw [HY.out.1, HY.out.2]
            · exact hpre.out j (by omega), below_drewN hb _⟩
          case measure => simp [intOf]; omega
        · have hne : ((y : Int) != (y' : Int)) = true := by simp; omega
          have HE := Lib.hid he
          clear he
          go_wp2
          go_quiet (fail)
          go_wp2
          go_ret
          refine ⟨ret_bool ?_, below_drewN hb _⟩
          rw [eq_comm, decide_eq_false_iff_not]
          rintro rfl
          exact HE.out (Option.some.inj (HY.out.1.symm.trans HY.out.2))
      · obtain rfl : k = l.length := by omega
        go_wp2
        go_ret
        refine ⟨ret_bool ?_, hb⟩
        rw [eq_comm, decide_eq_true_iff]
        exact eq_of_at HL.out hpre.out
  · have ht : ((l.length : Int) != l'.length) = true := by simp; omega
    have HL := Lib.hid hl
    clear hl
    go_enter Try.func13, Try.ntmps13
    go_wp2
    go_ret
    refine ⟨ret_bool ?_, Below.refl _ _⟩
    rw [eq_comm, decide_eq_false_iff_not]
    rintro rfl
    exact HL.out rfl

/-- Blocks that hold no bytes stay as they are. -/
def K5 (w w' : World) : Prop := ∀ g t cs, t ≠ 5 → Whole w g t cs → Whole w' g t cs
theorem K5.refl (w : World) : K5 w w := fun _ _ _ _ h => h
theorem K5.trans {a b c : World} (h : K5 a b) (k : K5 b c) : K5 a c := fun g t cs ht hw => k g t cs ht (h g t cs ht hw)
theorem K5.alloc {a b : World} (h : K5 a b) (o : Obj) : K5 a (b.alloc o) := fun g t cs ht hw => (h g t cs ht hw).alloc o
theorem K5.below {a b c : World} (h : K5 a b) (hb : Below b.heap.size b c) : K5 a c := fun g t cs ht hw => Whole.under hb (h g t cs ht hw) (Whole.lt (h g t cs ht hw))

set_option maxHeartbeats 400000 in
theorem joined_any (v s : Value) (xs ys : List Nat) (B : Nat) (w : World) (h : OwnB w B v xs) (hs : BytesAt w s ys) (hB : B ≤ w.heap.size) (hn : xs.length + ys.length ≤ 100000) :
    Calls Try.prog 24 #[v, s] w fun e w' => ∃ r, e = .returned r ∧ OwnB w' B r (xs ++ ys) ∧ Below B w w' ∧ K5 w w' := by
  obtain ⟨i0, z, hi, hz0, hz1, hz2, hzs⟩ := info5
  have hgrow : ∀ (w' : World), w.grownBy w' v.ownBlock → Below B w w' := fun w' hg => (Below.refl _ w).grown hg hB fun k hk => (h.1.lt k hk).1
  have HG := Lib.hid hgrow
  have hkeep : ∀ (w' : World), w.grownBy w' v.ownBlock → K5 w w' := fun w' hg g t cs ht hw => hw.grown hg fun e => own_blk_far h.1 hw (Ne.symm ht) e.symm
  have HK := Lib.hid hkeep
  clear hkeep
  have HBY := Lib.hid (h.2.append hs.2)
  have HO := Lib.hid h.1
  obtain ⟨hl, hm, h1, ⟨rfl, hl0⟩ | ⟨a, c, rfl, -, hc⟩⟩ := hs.1
  · obtain rfl : ys = [] := List.eq_nil_of_length_eq_zero hl0
    clear h hs hgrow
    go_enter Try.func24, Try.ntmps24
    go_wp2_with (at_builtin; refine wpList_append_own_none rfl _ _ 22 rfl B 5 i0 1 Try.underlying22 hi _ _ _ rfl HO.out rfl ?_)
    go_ret
    exact ⟨_, rfl, by rw [List.append_nil]; exact ⟨HO.out, by simpa using HBY.out⟩, Below.refl _ _, K5.refl _⟩
  · have HC := Lib.hid hc
    have HL := Lib.hid (And.intro hl h1)
    clear h hs hgrow hc hl h1 hm
    go_enter Try.func24, Try.ntmps24
    go_wp2_with (at_builtin; refine wpList_append_own _ rfl _ _ 22 rfl B 5 i0 z 1 1 Try.underlying22 hi hz0 hz1 hz2 hzs (by decide) _ _ _ rfl HO.out a ys.length c (byteCells ys) rfl ?qc1 HC.out ?qc3 ?qc4 ?qc5 hB ?_)
    case qc1 => exact HL.out.1
    case qc3 => exact HL.out.2
    case qc4 => unfold maxLen; omega
    case qc5 => omega
    intro v' w1 hown hg _
    have HN := Lib.hid (And.intro hown hg)
    clear hown hg
    go_wp2
    go_ret
    exact ⟨_, rfl, ⟨by rw [byteCells_append, List.length_append]; exact HN.out.1, HBY.out⟩, HG.out _ HN.out.2, HK.out _ HN.out.2⟩
end Go.Proofs.Ytibikehfeobikaa
